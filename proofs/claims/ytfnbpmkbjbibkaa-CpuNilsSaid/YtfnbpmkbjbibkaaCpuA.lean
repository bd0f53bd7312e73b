/- A struct of many cells as an abstract row: made, built, boxed, loaded, stored; the machine's block and a state's cells. (PK=PCpuNils) -/
import Derived.Test.YtfnbpmkbjbibkaaPCpuNilsx
import Derived.Test.YtfnbpmkbjbibkaaCpu
import Derived.Test.YtfnbpmkbjbibkaaRegInvK
import Derived.Laws.Tables
import Derived.Great.BuildSlice
import Derived.Deep.MidRow
namespace Go.Proofs.Ytfnbpmkbjbibkaa
open Go Go.RowKit Go.Deep Go.Great Go.Proofs.YtfnbpmkbjbibkaaW.PrintWords
set_option linter.unusedVariables false
set_option linter.unusedSimpArgs false

section
variable {P : Program}
theorem range_of {w : World} {b t : Nat} {cs : Array Value} {z : Nat × Nat} (H : w.heap[b]? = some (.cells cs t z)) : w.rangeAt b 0 cs.toList := fun j v hv => by
  rw [Nat.zero_add, cell_of_row w b j _ _ _ H]
  simpa using hv
theorem range_in {w : World} {b t : Nat} {cs : List Value} {z : Nat × Nat} (H : w.heap[b]? = some (.cells cs.toArray t z)) (o : Nat) (vs : List Value) (h : ∀ j v, vs[j]? = some v → cs[o + j]? = some v) : w.rangeAt b o vs := fun j v hv => by
  rw [cell_of_row w b (o + j) _ _ _ H]
  simpa using h j v hv
theorem there_mid {w : World} {B t : Nat} {cs : Array Value} (H : w.heap[B]? = some (.cells cs t (0, 0))) (o n : Nat) (h : o + n ≤ cs.size) : w.there B o n := fun j hj => by
  refine ⟨?_, blk_frozen H _⟩
  rw [cell_of_row w B (o + j) _ _ _ H]
  simp; omega
theorem storeN {w : World} {g t : Nat} {cs : Array Value} (h : w.heap[g]? = some (.cells cs t (0, 0))) (vs : List Value) (hs : cs.size = vs.length) : (w.setCells g 0 vs).heap[g]? = some (.cells vs.toArray t (0, 0)) ∧ Only g w (w.setCells g 0 vs) := by
  refine ⟨?_, only_setCells vs 0 w⟩
  rw [blk_setCells vs 0 w cs h]
  have := putAt_list vs 0 cs (by omega)
  have e : putAt cs 0 vs = vs.toArray := by
    apply Array.toList_inj.1
    rw [this]
    simp [hs]
  rw [e]
theorem wpList_load_arr {ops : Array Oper} {Q : Exit → Act → World → Prop} {rest : List Oper} {op : Oper} {a : Act} {w : World} (hgd : op.guard = none) (ty : TypeId) (x : Operand) (ho : op.op = .load ty x)
    (b : Nat) (hx : a.eval x = .pointer (some ⟨b, 0, none⟩)) (cs : Array Value) {t : Nat} {z : Nat × Nat} (H : w.heap[b]? = some (.cells cs t z)) (d : TypeDesc)
    (hu : P.underlying ty = some d) (hd : d.isRow = true) (hi : (P.info? ty).map (·.size) = some cs.size)
    (h : wpList P ops Q rest (a.put op.dst (.agg cs)) w) : wpList P ops Q (op :: rest) a w :=
  wpList_load_mid hgd ty x ho b 0 hx cs.toList d (range_of H) hu hd (by simpa using hi) (by simpa using h)
theorem wp_load_arr {op : Oper} {a : Act} {w : World} {K : Act → World → Prop} {Q : Exit → Act → World → Prop} (ty : TypeId) (x : Operand) (ho : op.op = .load ty x)
    (b : Nat) (hx : a.eval x = .pointer (some ⟨b, 0, none⟩)) (cs : Array Value) {t : Nat} {z : Nat × Nat} (H : w.heap[b]? = some (.cells cs t z)) (d : TypeDesc)
    (hu : P.underlying ty = some d) (hd : d.isRow = true) (hi : (P.info? ty).map (·.size) = some cs.size) (h : K (a.put op.dst (.agg cs)) w) : op.wp P a w K Q :=
  wp_load_mid ty x ho b 0 hx cs.toList d (range_of H) hu hd (by simpa using hi) (by simpa using h)
theorem wp_store_arr {op : Oper} {a : Act} {w : World} {K : Act → World → Prop} {Q : Exit → Act → World → Prop} (ty : TypeId) (x y : Operand) (ho : op.op = .store ty x y)
    (b : Nat) (hx : a.eval x = .pointer (some ⟨b, 0, none⟩)) (cs : Array Value) (hy : a.eval y = .agg cs) (rs : Array Value) (t : Nat) (H : w.heap[b]? = some (.cells rs t (0, 0))) (hrs : rs.size = cs.size)
    (hi : (P.info? ty).map (·.size) = some cs.size) (h1 : cs.all (·.oneCell') = true)
    (h : ∀ w', w'.heap[b]? = some (.cells cs t (0, 0)) → Only b w w' → K (a.put op.dst undef) w') : op.wp P a w K Q := by
  have hs := storeN H cs.toList (by simpa using hrs)
  refine wp_store_mid ty x y ho b 0 cs hx hy (there_mid H 0 _ (by omega)) hi h1 (h _ ?_ hs.2)
  simpa using hs.1
theorem wpList_store_arr {ops : Array Oper} {Q : Exit → Act → World → Prop} {rest : List Oper} {op : Oper} {a : Act} {w : World} (hgd : op.guard = none) (ty : TypeId) (x y : Operand) (ho : op.op = .store ty x y)
    (b : Nat) (hx : a.eval x = .pointer (some ⟨b, 0, none⟩)) (cs : Array Value) (hy : a.eval y = .agg cs) (rs : Array Value) (t : Nat) (H : w.heap[b]? = some (.cells rs t (0, 0))) (hrs : rs.size = cs.size)
    (hi : (P.info? ty).map (·.size) = some cs.size) (h1 : cs.all (·.oneCell') = true)
    (h : ∀ w', w'.heap[b]? = some (.cells cs t (0, 0)) → Only b w w' → wpList P ops Q rest (a.put op.dst undef) w') : wpList P ops Q (op :: rest) a w :=
  wpList_plain hgd fun _ hK => wp_store_arr ty x y ho b hx cs hy rs t H hrs hi h1 fun w' h2 h3 => hK _ _ (h w' h2 h3)
theorem wp_build_eq {o : Oper} {a : Act} {w : World} {K : Act → World → Prop} {Q : Exit → Act → World → Prop} (t : TypeId) (parts : Array (Nat × Operand)) (ho : o.op = .build t parts) (cells : Array Value)
    (hc : P.built t (parts.map fun (i, x) => (i, a.eval x)).toList = some cells) (h : K (a.put o.dst (.agg cells)) w) : o.wp P a w K Q := by
  unfold Oper.wp execOp
  simp only [ho, Sem.run_bind, run_build w t _ cells hc, Result.andThen_ok]
  exact h
/-- A new variable: its zero as a row. -/
theorem wp_alloc_z {o : Oper} {a : Act} {w : World} {K : Act → World → Prop} {Q : Exit → Act → World → Prop} (t : TypeId) (ho : o.op = .alloc t) (cs : Array Value)
    (hz : (P.info? t).bind (fun i => i.zero.map (·.cells)) = some cs) (h : ∀ w', w'.heap[w.heap.size]? = some (.cells cs t (0, 0)) → Below w.heap.size w w' → K (a.put o.dst (.pointer (some ⟨w.heap.size, 0, none⟩))) w') : o.wp P a w K Q := by
  cases hi : P.info? t with
  | none => simp [hi] at hz
  | some it =>
    cases hzz : it.zero with
    | none => simp [hi, hzz] at hz
    | some z =>
      simp only [hi, hzz, Option.bind_some, Option.map_some, Option.some.injEq] at hz
      subst hz
      have hrun : (Instr.alloc t true (.tuple #[])).run P w = .ok (.pointer (some ⟨w.heap.size, 0, none⟩)) (w.alloc (.cells z.cells t)) := by
        simp [Instr.alloc, zeroValue, typeInfo, hi, hzz, newVar, newRow]
      unfold Oper.wp execOp
      simp only [ho, Sem.run_bind, hrun, Result.andThen_ok]
      exact h _ (blk_new w _) (below_alloc (Below.refl _ _) _)
theorem wpList_alloc_z {ops : Array Oper} {Q : Exit → Act → World → Prop} {rest : List Oper} {o : Oper} {a : Act} {w : World} (hgd : o.guard = none) (t : TypeId) (ho : o.op = .alloc t) (cs : Array Value)
    (hz : (P.info? t).bind (fun i => i.zero.map (·.cells)) = some cs) (h : ∀ w', w'.heap[w.heap.size]? = some (.cells cs t (0, 0)) → Below w.heap.size w w' → wpList P ops Q rest (a.put o.dst (.pointer (some ⟨w.heap.size, 0, none⟩))) w') : wpList P ops Q (o :: rest) a w :=
  wpList_plain hgd fun _ hK => wp_alloc_z t ho cs hz fun w' h2 h3 => hK _ _ (h w' h2 h3)
theorem wpList_box_arr {ops : Array Oper} {Q : Exit → Act → World → Prop} {rest : List Oper} {o : Oper} {a : Act} {w : World} (hgd : o.guard = none) (t : TypeId) (x : Operand) (ho : o.op = .box t x) (cs : Array Value) (hx : a.eval x = .agg cs)
    (h : ∀ w', w'.heap[w.heap.size]? = some (.cells cs t (0, 0)) → Below w.heap.size w w' → wpList P ops Q rest (a.put o.dst (.pointer (some ⟨w.heap.size, 0, none⟩))) w') : wpList P ops Q (o :: rest) a w := by
  refine wpList_plain hgd fun K hK => ?_
  unfold Oper.wp execOp
  simp only [ho, hx, Sem.run_bind, Instr.box, newVar, newRow, run_newObj_alloc, Sem.run_pure, Result.andThen_ok]
  exact hK _ _ (h _ (blk_new w _) (below_alloc (Below.refl _ _) _))

/- What 'build' makes, part by part. -/
theorem foldl_putAt (off : Nat) : ∀ (l : List Value) (k : Nat) (cs : Array Value), (l.zipIdx k).foldl (fun cs (x : Value × Nat) => cs.setIfInBounds (off + x.2) x.1) cs = putAt cs (off + k) l
  | [], k, cs => rfl
  | v :: vs, k, cs => by
    rw [List.zipIdx_cons, List.foldl_cons, putAt]
    exact foldl_putAt off vs (k + 1) _
theorem fill_put {place : Nat → Option (Nat × Nat)} {cells : Array Value} {i off size : Nat} {v : Value} {rest : List (Nat × Value)} (hp : place i = some (off, size)) (hs : v.cells.size = size) (hb : off + size ≤ cells.size) :
    Instr.fill place cells ((i, v) :: rest) = Instr.fill place (putAt cells off v.cells.toList) rest := by
  rw [Instr.fill]
  simp only [hp]
  rw [if_neg (by simp [hs]; omega)]
  congr 1
  have := foldl_putAt off v.cells.toList 0 cells
  rw [Nat.add_zero] at this
  rw [← this, ← Array.foldl_toList]
  simp
theorem putAt_size : ∀ (vs : List Value) (o : Nat) (a : Array Value), (putAt a o vs).size = a.size
  | [], _, _ => rfl
  | v :: vs, o, a => by rw [putAt, putAt_size vs]; simp
end

/-- The first cells of a machine, and of a state: pc, registers, file, tick, retired; then L. -/
def cH (pc : Int) (rg fl : List Value) (tk rt : Int) (L : List Value) : List Value := .int .u32 pc :: (rg ++ (fl ++ (.int .u64 tk :: .int .u64 rt :: L)))
section
variable {pc : Int} {rg fl : List Value} {tk rt : Int} {L : List Value}
theorem cH_len (h1 : rg.length = 32) (h2 : fl.length = 9) : (cH pc rg fl tk rt L).length = 44 + L.length := by simp [cH, h1, h2]; omega
theorem cH_r (h1 : rg.length = 32) (h2 : fl.length = 9) (j : Nat) (v : Value) (h : rg[j]? = some v) : (cH pc rg fl tk rt L)[1 + j]? = some v := by
  have hj := (List.getElem?_eq_some_iff.1 h).1
  rw [cH, Nat.add_comm, List.getElem?_cons_succ, List.getElem?_append_left hj, h]
theorem cH_f (h1 : rg.length = 32) (h2 : fl.length = 9) (j : Nat) (v : Value) (h : fl[j]? = some v) : (cH pc rg fl tk rt L)[33 + j]? = some v := by
  have hj := (List.getElem?_eq_some_iff.1 h).1
  rw [cH, show 33 + j = (32 + j) + 1 by omega, List.getElem?_cons_succ, List.getElem?_append_right (by omega), h1, show 32 + j - 32 = j by omega, List.getElem?_append_left hj, h]
theorem cH_t (h1 : rg.length = 32) (h2 : fl.length = 9) (j : Nat) : (cH pc rg fl tk rt L)[42 + j]? = (.int .u64 tk :: .int .u64 rt :: L)[j]? := by
  rw [cH, show 42 + j = (41 + j) + 1 by omega, List.getElem?_cons_succ, List.getElem?_append_right (by omega), h1, List.getElem?_append_right (by omega), h2, show 41 + j - 32 - 9 = j by omega]
theorem cH_L (h1 : rg.length = 32) (h2 : fl.length = 9) (j : Nat) : (cH pc rg fl tk rt L)[44 + j]? = L[j]? := by
  rw [show 44 + j = 42 + (j + 2) by omega, cH_t h1 h2]; rfl
theorem set_after (a b : List Value) (n j : Nat) (v : Value) (h : a.length = n) : (a ++ b).set (n + j) v = a ++ b.set j v := by
  rw [List.set_append_right _ _ (by omega), h, Nat.add_sub_cancel_left]
theorem cH_setL (h1 : rg.length = 32) (h2 : fl.length = 9) (j : Nat) (v : Value) : (cH pc rg fl tk rt L).toArray.setIfInBounds (44 + j) v = (cH pc rg fl tk rt (L.set j v)).toArray := by
  rw [List.setIfInBounds_toArray, cH, show 44 + j = (32 + (9 + (2 + j))) + 1 by omega, List.set_cons_succ, set_after _ _ _ _ _ h1, set_after _ _ _ _ _ h2, show 2 + j = j + 1 + 1 by omega]
  rfl
theorem cH_setP (x : Int) : (cH pc rg fl tk rt L).toArray.setIfInBounds 0 (.int .u32 x) = (cH x rg fl tk rt L).toArray := by
  rw [List.setIfInBounds_toArray]; rfl
theorem cH_setR (h1 : rg.length = 32) (j : Nat) (hj : j < 32) (v : Value) : (cH pc rg fl tk rt L).toArray.setIfInBounds (1 + j) v = (cH pc (rg.set j v) fl tk rt L).toArray := by
  rw [List.setIfInBounds_toArray, cH, Nat.add_comm, List.set_cons_succ, List.set_append_left _ _ (by omega)]
  rfl
theorem cH_setT (h1 : rg.length = 32) (h2 : fl.length = 9) (x : Int) : (cH pc rg fl tk rt L).toArray.setIfInBounds 42 (.int .u64 x) = (cH pc rg fl x rt L).toArray := by
  have e1 := set_after rg (fl ++ (.int .u64 tk :: .int .u64 rt :: L)) 32 (9 + 0) (.int .u64 x) h1
  rw [set_after fl _ 9 0 _ h2] at e1
  rw [List.setIfInBounds_toArray]
  exact congrArg (fun l => (Value.int .u32 pc :: l).toArray) e1
theorem cH_setI (h1 : rg.length = 32) (h2 : fl.length = 9) (x : Int) : (cH pc rg fl tk rt L).toArray.setIfInBounds 43 (.int .u64 x) = (cH pc rg fl tk x L).toArray := by
  have e1 := set_after rg (fl ++ (.int .u64 tk :: .int .u64 rt :: L)) 32 (9 + 1) (.int .u64 x) h1
  rw [set_after fl _ 9 1 _ h2] at e1
  rw [List.setIfInBounds_toArray]
  exact congrArg (fun l => (Value.int .u32 pc :: l).toArray) e1
theorem cH_one (h1 : ∀ v ∈ rg, v.oneCell' = true) (h2 : ∀ v ∈ fl, v.oneCell' = true) (h3 : ∀ v ∈ L, v.oneCell' = true) : (cH pc rg fl tk rt L).toArray.all (·.oneCell') = true := by
  refine all_oneCell_toArray fun v hv => ?_
  simp only [cH, List.mem_cons, List.mem_append] at hv
  rcases hv with rfl | hv | hv | rfl | rfl | hv
  · rfl
  · exact h1 v hv
  · exact h2 v hv
  · rfl
  · rfl
  · exact h3 v hv
end
/-- Zeros. -/
def rZ : List Value := List.replicate 32 (.int .u32 0)
def fZ : List Value := List.replicate 7 (.int .u32 0) ++ List.replicate 2 (.int .u64 0)
def sL (ram rx out : Value) (over : Bool) (came o m : Int) (s off : Bool) (code : Int) (ev : Value) : List Value := [ram, rx, out, .bool over, .int .i64 came, .int .u64 o, .int .u64 m, .bool s, .bool off, .int .u32 code, ev]
def nl : Value := .slice none 0 0
def zS : Array Value := (cH 0 rZ fZ 0 0 (sL nl nl nl false 0 0 0 false false 0 nl)).toArray
theorem rZ_len : rZ.length = 32 := rfl
theorem fZ_len : fZ.length = 9 := rfl
theorem rZ_one : ∀ v ∈ rZ, v.oneCell' = true := by intro v hv; obtain rfl := List.eq_of_mem_replicate hv; rfl
theorem fZ_one : ∀ v ∈ fZ, v.oneCell' = true := by
  intro v hv
  rcases List.mem_append.1 hv with hv | hv <;> (obtain rfl := List.eq_of_mem_replicate hv; rfl)
theorem zS_size : zS.size = 55 := rfl
theorem zS_one : zS.all (·.oneCell') = true := by kernel_rfl
theorem zS_zero : (Try.prog.info? 43).bind (fun i => i.zero.map (·.cells)) = some zS := by kernel_rfl
theorem zS_built : Try.prog.built 43 [] = some zS := by kernel_rfl
theorem st_size : (Try.prog.info? 43).map (·.size) = some 55 := by kernel_rfl
theorem cpu_size : (Try.prog.info? 91).map (·.size) = some 46 := by kernel_rfl

/-- Block p is a machine. -/
structure IsM (w : World) (p : Nat) (pc : Int) (rg fl : List Value) (tk rt : Int) (B : Nat) (ev : Value) : Prop where
  h : w.heap[p]? = some (.cells (cH pc rg fl tk rt [.pointer (some ⟨B, 0, none⟩), ev]).toArray 91 (0, 0))
  r : rg.length = 32
  f : fl.length = 9
  r1 : ∀ v ∈ rg, v.oneCell' = true
  f1 : ∀ v ∈ fl, v.oneCell' = true
  e : ∃ A n c, ev = .slice A n c
section
variable {w w' : World} {p : Nat} {pc : Int} {rg fl : List Value} {tk rt : Int} {B : Nat} {ev : Value}
theorem IsM.below (h : IsM w p pc rg fl tk rt B ev) (d : Below w.heap.size w w') : IsM w' p pc rg fl tk rt B ev := ⟨blk_below h.h d, h.r, h.f, h.r1, h.f1, h.e⟩
theorem IsM.drawn (h : IsM w p pc rg fl tk rt B ev) (d : Drawn0 w w') : IsM w' p pc rg fl tk rt B ev := h.below d.below
theorem IsM.cpc (h : IsM w p pc rg fl tk rt B ev) : w.cell? ⟨p, 0, none⟩ = some (.int .u32 pc) := (cell_of_row w p 0 _ _ _ h.h).trans rfl
theorem IsM.ctk (h : IsM w p pc rg fl tk rt B ev) : w.cell? ⟨p, 42, none⟩ = some (.int .u64 tk) := by
  rw [cell_of_row w p 42 _ _ _ h.h, List.getElem?_toArray]; exact cH_t h.r h.f 0
theorem IsM.crt (h : IsM w p pc rg fl tk rt B ev) : w.cell? ⟨p, 43, none⟩ = some (.int .u64 rt) := by
  rw [cell_of_row w p 43 _ _ _ h.h, List.getElem?_toArray]; exact cH_t h.r h.f 1
theorem IsM.cb (h : IsM w p pc rg fl tk rt B ev) : w.cell? ⟨p, 44, none⟩ = some (.pointer (some ⟨B, 0, none⟩)) := by
  rw [cell_of_row w p 44 _ _ _ h.h, List.getElem?_toArray]; exact cH_L h.r h.f 0
theorem IsM.cev (h : IsM w p pc rg fl tk rt B ev) : w.cell? ⟨p, 45, none⟩ = some ev := by
  rw [cell_of_row w p 45 _ _ _ h.h, List.getElem?_toArray]; exact cH_L h.r h.f 1
theorem IsM.rr (h : IsM w p pc rg fl tk rt B ev) : w.rangeAt p 1 rg := range_in h.h 1 rg (cH_r h.r h.f)
theorem IsM.rf (h : IsM w p pc rg fl tk rt B ev) : w.rangeAt p 33 fl := range_in h.h 33 fl (cH_f h.r h.f)
theorem IsM.fz (h : IsM w p pc rg fl tk rt B ev) (i : Nat) : w.frozen? ⟨p, i, none⟩ = false := blk_frozen h.h i
theorem IsM.setP (h : IsM w p pc rg fl tk rt B ev) (x : Int) : IsM (w.setCell ⟨p, 0, none⟩ (.int .u32 x)) p x rg fl tk rt B ev := ⟨by rw [blk_set h.h 0 _, cH_setP], h.r, h.f, h.r1, h.f1, h.e⟩
theorem IsM.setT (h : IsM w p pc rg fl tk rt B ev) (x : Int) : IsM (w.setCell ⟨p, 42, none⟩ (.int .u64 x)) p pc rg fl x rt B ev := ⟨by rw [blk_set h.h 42 _, cH_setT h.r h.f], h.r, h.f, h.r1, h.f1, h.e⟩
theorem IsM.setI (h : IsM w p pc rg fl tk rt B ev) (x : Int) : IsM (w.setCell ⟨p, 43, none⟩ (.int .u64 x)) p pc rg fl tk x B ev := ⟨by rw [blk_set h.h 43 _, cH_setI h.r h.f], h.r, h.f, h.r1, h.f1, h.e⟩
theorem IsM.setR (h : IsM w p pc rg fl tk rt B ev) (j : Nat) (hj : j < 32) (x : Int) : IsM (w.setCell ⟨p, 1 + j, none⟩ (.int .u32 x)) p pc (rg.set j (.int .u32 x)) fl tk rt B ev :=
  ⟨by rw [blk_set h.h (1 + j) _, cH_setR h.r j hj], by simp [h.r], h.f, fun v hv => by
    rcases List.mem_or_eq_of_mem_set hv with hv | rfl
    · exact h.r1 v hv
    · rfl, h.f1, h.e⟩
end
end Go.Proofs.Ytfnbpmkbjbibkaa
