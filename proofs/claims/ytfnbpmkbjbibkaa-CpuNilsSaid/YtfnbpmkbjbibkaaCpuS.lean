/- A machine's State. Printed by wip/tools/gen_cpus.py. (PK=PCpuNils) -/
import Derived.Test.YtfnbpmkbjbibkaaCpuN
namespace Go.Proofs.Ytfnbpmkbjbibkaa
open Go Go.RowKit Go.Deep Go.Great Go.Proofs.YtfnbpmkbjbibkaaW.PrintWords Go.Proofs.Ytfnbpmkbjbibkaa.PCpuNils
set_option linter.unusedVariables false
set_option linter.unusedSimpArgs false

section
variable {P : Program}
theorem built_struct {t : TypeId} {fields : Array Field} {zc : Array Value} {places : List (Nat × Nat)} {parts : List (Nat × Value)} (hi : (P.info? t).bind (fun i => i.zero.map (·.cells)) = some zc) (hu : P.underlying t = some (.struct fields))
    (hp : fields.toList.mapM (fun f => (P.info? f.type).map fun i => (f.offset, i.size)) = some places) : P.built t parts = Instr.fill (fun i => places.toArray[i]?) zc parts := by
  unfold Program.built
  cases hii : P.info? t with
  | none => simp [hii] at hi
  | some it =>
    cases hzz : it.zero with
    | none => simp [hii, hzz] at hi
    | some z =>
      simp only [hii, hzz, Option.bind_some, Option.map_some, Option.some.injEq] at hi
      subst hi
      simp only [hu, hp, hzz]
theorem run_storeVar_cell (w : World) (b o : Nat) (ty : TypeId) (v : Value) (ht : w.there b o 1) (hi : (P.info? ty).map (·.size) = some 1) (h1 : v.oneCell' = true) :
    (storeVar ty ⟨b, o, none⟩ v).run P w = .ok () (w.setCells b o [v]) := by
  have := run_storeCells_cells (P := P) b o [v] 0 w (fun j hj => by simpa using (ht j (by simpa using hj)).1) (fun j hj => by simpa using (ht j (by simpa using hj)).2) (fun x hx => by simp at hx; subst hx; exact h1)
  have hc : v.cells = #[v] := by cases v <;> first | rfl | cases h1
  cases hq : P.info? ty with
  | none => simp [hq] at hi
  | some i =>
    have hs : i.size = 1 := by simpa [hq] using hi
    simp only [Nat.add_zero] at this
    simp [storeVar, sizeOf, typeInfo, hq, hc, hs, this]
/-- A store of one cell into a block that is known whole. -/
theorem wpList_store_cell {ops : Array Oper} {Q : Exit → Act → World → Prop} {rest : List Oper} {op : Oper} {a : Act} {w : World} (hgd : op.guard = none) (ty : TypeId) (x y : Operand) (ho : op.op = .store ty x y)
    (b o : Nat) (v : Value) (hx : a.eval x = .pointer (some ⟨b, o, none⟩)) (hy : a.eval y = v) (hv : v.oneCell' = true) (cs : Array Value) (t : Nat) (H : w.heap[b]? = some (.cells cs t (0, 0))) (hb : o < cs.size)
    (hi : (P.info? ty).map (·.size) = some 1)
    (h : ∀ w', w'.heap[b]? = some (.cells (cs.setIfInBounds o v) t (0, 0)) → Only b w w' → wpList P ops Q rest (a.put op.dst undef) w') : wpList P ops Q (op :: rest) a w :=
  wpList_plain hgd fun _ hK => by
    unfold Oper.wp execOp
    simp only [ho, hx, hy, Instr.storeAt, Instr.sureAddr, Sem.run_bind, Sem.run_pure, Result.andThen_ok, run_storeVar_cell w b o ty v (there_mid H o 1 (by omega)) hi hv]
    exact hK _ _ (h _ (blk_setCells [v] o w cs H) (only_setCells [v] o w))
/-- A store of a part. -/
theorem wpList_store_part {ops : Array Oper} {Q : Exit → Act → World → Prop} {rest : List Oper} {op : Oper} {a : Act} {w : World} (hgd : op.guard = none) (ty : TypeId) (x y : Operand) (ho : op.op = .store ty x y)
    (b o : Nat) (vs : Array Value) (hx : a.eval x = .pointer (some ⟨b, o, none⟩)) (hy : a.eval y = .agg vs) (h1 : vs.all (·.oneCell') = true) (cs : Array Value) (t : Nat) (H : w.heap[b]? = some (.cells cs t (0, 0))) (hb : o + vs.size ≤ cs.size)
    (hi : (P.info? ty).map (·.size) = some vs.size)
    (h : ∀ w', w'.heap[b]? = some (.cells (putAt cs o vs.toList) t (0, 0)) → Only b w w' → wpList P ops Q rest (a.put op.dst undef) w') : wpList P ops Q (op :: rest) a w :=
  wpList_store_mid hgd ty x y ho b o vs hx hy (there_mid H o _ hb) hi h1 (h _ (blk_setCells vs.toList o w cs H) (only_setCells vs.toList o w))
end
section
variable {pc : Int} {rg fl : List Value} {tk rt : Int} {L : List Value}
theorem cH_size (h1 : rg.length = 32) (h2 : fl.length = 9) : (cH pc rg fl tk rt L).toArray.size = 44 + L.length := by rw [List.size_toArray, cH_len h1 h2]
theorem cH_putR (h1 : rg.length = 32) (h2 : fl.length = 9) (vs : List Value) (hv : vs.length = 32) : putAt (cH pc rg fl tk rt L).toArray 1 vs = (cH pc vs fl tk rt L).toArray := by
  apply Array.toList_inj.1
  rw [putAt_list _ _ _ (by rw [cH_size h1 h2]; omega), hv]
  show (cH pc rg fl tk rt L).take 1 ++ vs ++ (cH pc rg fl tk rt L).drop 33 = _
  rw [show 33 = 32 + 1 from rfl, cH, List.drop_succ_cons, List.drop_append_of_le_length (by omega), List.drop_of_length_le (by omega)]
  simp [cH]
theorem cH_putF (h1 : rg.length = 32) (h2 : fl.length = 9) (vs : List Value) (hv : vs.length = 9) : putAt (cH pc rg fl tk rt L).toArray 33 vs = (cH pc rg vs tk rt L).toArray := by
  apply Array.toList_inj.1
  rw [putAt_list _ _ _ (by rw [cH_size h1 h2]; omega), hv]
  show (cH pc rg fl tk rt L).take 33 ++ vs ++ (cH pc rg fl tk rt L).drop 42 = _
  have e1 : (cH pc rg fl tk rt L).take 33 = .int .u32 pc :: rg := by
    rw [show 33 = 32 + 1 from rfl, cH, List.take_succ_cons, List.take_append_of_le_length (by omega), List.take_of_length_le (by omega)]
  have e2 : (cH pc rg fl tk rt L).drop 42 = .int .u64 tk :: .int .u64 rt :: L := by
    rw [show 42 = 41 + 1 from rfl, cH, List.drop_succ_cons, ← List.append_assoc, List.drop_append_of_le_length (by simp; omega), List.drop_of_length_le (by simp; omega)]
    rfl
  rw [e1, e2]
  simp [cH]
theorem putAt_one (a : Array Value) (o : Nat) (v : Value) : putAt a o [v] = a.setIfInBounds o v := rfl
theorem st_built (h1 : rg.length = 32) (h2 : fl.length = 9) (A : Option Addr) (n c : Nat) (A' : Option Addr) (n' c' : Nat) : Try.prog.built 43 [(0, .int .u32 pc), (1, .agg rg.toArray), (2, .agg fl.toArray), (3, .int .u64 tk), (4, .int .u64 rt), (5, .slice A n c), (13, .slice A' n' c')] =
    some (cH pc rg fl tk rt (sL (.slice A n c) nl nl false 0 0 0 false false 0 (.slice A' n' c'))).toArray := by
  rw [built_struct zS_zero Try.underlying43 (places := [(0, 1), (1, 32), (33, 9), (42, 1), (43, 1), (44, 1), (45, 1), (46, 1), (47, 1), (48, 1), (49, 3), (52, 1), (53, 1), (54, 1)]) (by kernel_rfl)]
  rw [fill_put (off := 0) (size := 1) rfl rfl (by rw [zS_size]; omega)]
  rw [fill_put (off := 1) (size := 32) rfl (by simpa [Value.cells] using h1) (by simp only [putAt_size]; rw [zS_size]; omega)]
  rw [fill_put (off := 33) (size := 9) rfl (by simpa [Value.cells] using h2) (by simp only [putAt_size]; rw [zS_size]; omega)]
  rw [fill_put (off := 42) (size := 1) rfl rfl (by simp only [putAt_size]; rw [zS_size]; omega)]
  rw [fill_put (off := 43) (size := 1) rfl rfl (by simp only [putAt_size]; rw [zS_size]; omega)]
  rw [fill_put (off := 44) (size := 1) rfl rfl (by simp only [putAt_size]; rw [zS_size]; omega)]
  rw [fill_put (off := 54) (size := 1) rfl rfl (by simp only [putAt_size]; rw [zS_size]; omega)]
  simp only [Instr.fill, Value.cells, putAt_one]
  rw [zS, cH_setP]
  rw [cH_putR rZ_len fZ_len rg h1]
  rw [cH_putF h1 fZ_len fl h2]
  rw [cH_setT h1 h2, cH_setI h1 h2]
  have e1 := fun L v => cH_setL (pc := pc) (tk := tk) (rt := rt) (L := L) h1 h2 0 v
  have e2 := fun L v => cH_setL (pc := pc) (tk := tk) (rt := rt) (L := L) h1 h2 10 v
  rw [show (44 : Nat) = 44 + 0 from rfl, e1]
  rw [show (54 : Nat) = 44 + 10 from rfl, e2]
  rfl
end
/-- What stays where memory is made, and where a state's box is written. -/
def St (Q : World → Prop) : Prop := (∀ w w', Q w → Below w.heap.size w w' → Q w') ∧ (∀ w w' g cs, Q w → w.heap[g]? = some (.cells cs 43 (0, 0)) → Only g w w' → Q w')
theorem St.and {Q R : World → Prop} (h : St Q) (k : St R) : St (fun w => Q w ∧ R w) := ⟨fun w w' q d => ⟨h.1 w w' q.1 d, k.1 w w' q.2 d⟩, fun w w' g cs q hg ho => ⟨h.2 w w' g cs q.1 hg ho, k.2 w w' g cs q.2 hg ho⟩⟩
theorem st_own {base : Nat} {v : Value} {n : Nat} {xs : List Value} : St (fun w => w.ownsRow base 5 1 v n xs) :=
  ⟨fun w w' q d => owns_below q d, fun w w' g cs q hg ho => owns_move q fun i hi => ho.block i (by
    rcases q.2 with ⟨rfl, _⟩ | ⟨g', cap, cur, rfl, hg', hh, _⟩
    · cases hi
    · obtain rfl : g' = i := by simpa [Value.ownBlock] using hi
      exact blk_lt hh) (fun e => owns_ne q hg (by decide) (e ▸ hi))⟩
/-- A state in the making: its box, the result's box, what stays. -/
structure SW (w0 : World) (G g : Nat) (a : Array Value) (Q : World → Prop) (w : World) : Prop where
  hG : w.heap[G]? = some (.cells a 43 (0, 0))
  hg : w.heap[g]? = some (.cells zS 43 (0, 0))
  ne : G ≠ g
  gG : w0.heap.size ≤ G
  gg : w0.heap.size ≤ g
  b : Below w0.heap.size w0 w
  q : Q w
theorem SW.below {w0 w w' : World} {G g : Nat} {a : Array Value} {Q : World → Prop} (h : SW w0 G g a Q w) (s : St Q) (d : Below w.heap.size w w') : SW w0 G g a Q w' := ⟨blk_below h.hG d, blk_below h.hg d, h.ne, h.gG, h.gg, below_on h.b d, s.1 _ _ h.q d⟩
theorem SW.set {w0 w w' : World} {G g : Nat} {a a' : Array Value} {Q : World → Prop} (h : SW w0 G g a Q w) (s : St Q) (hG : w'.heap[G]? = some (.cells a' 43 (0, 0))) (ho : Only G w w') : SW w0 G g a' Q w' :=
  ⟨hG, blk_only h.hg ho (Ne.symm h.ne), h.ne, h.gG, h.gg, ho.below h.gG h.b, s.2 _ _ _ _ h.q h.hG ho⟩
theorem SW.put {w0 w w' : World} {G g : Nat} {pc : Int} {rg fl : List Value} {tk rt : Int} {L L' : List Value} {Q : World → Prop} (h : SW w0 G g (cH pc rg fl tk rt L).toArray Q w) (s : St Q) (h1 : rg.length = 32) (h2 : fl.length = 9) (j : Nat) (v : Value) (hG : w'.heap[G]? = some (.cells ((cH pc rg fl tk rt L).toArray.setIfInBounds (44 + j) v) 43 (0, 0))) (ho : Only G w w') (hL : L.set j v = L') : SW w0 G g (cH pc rg fl tk rt L').toArray Q w' := by
  rw [cH_setL h1 h2, hL] at hG
  exact h.set s hG ho
theorem SW.put3 {w0 w w' : World} {G g : Nat} {pc : Int} {rg fl : List Value} {tk rt : Int} {L L' : List Value} {Q : World → Prop} (h : SW w0 G g (cH pc rg fl tk rt L).toArray Q w) (s : St Q) (h1 : rg.length = 32) (h2 : fl.length = 9) (j : Nat) (x y z : Value) (hG : w'.heap[G]? = some (.cells (putAt (cH pc rg fl tk rt L).toArray (44 + j) [x, y, z]) 43 (0, 0))) (ho : Only G w w') (hL : ((L.set j x).set (j + 1) y).set (j + 2) z = L') : SW w0 G g (cH pc rg fl tk rt L').toArray Q w' := by
  rw [putAt, putAt, putAt, putAt, cH_setL h1 h2, show 44 + j + 1 = 44 + (j + 1) from rfl, cH_setL h1 h2, show 44 + (j + 1) + 1 = 44 + (j + 2) from rfl, cH_setL h1 h2, hL] at hG
  exact h.set s hG ho
section
variable {w0 w w' : World} {G g : Nat} {pc : Int} {rg fl : List Value} {tk rt : Int} {Q : World → Prop} {ram rx ox ev rx' ox' : Value} {over over' : Bool} {came came' o m : Int} {s off off' : Bool} {code code' : Int}
theorem lt_sL (h1 : rg.length = 32) (h2 : fl.length = 9) {j : Nat} (hj : j < 55) : j < (cH pc rg fl tk rt (sL ram rx ox over came o m s off code ev)).toArray.size := by rw [cH_size h1 h2]; exact hj
theorem sz_sL (h1 : rg.length = 32) (h2 : fl.length = 9) : (cH pc rg fl tk rt (sL ram rx ox over came o m s off code ev)).toArray.size = 55 := by rw [cH_size h1 h2]; rfl
theorem SW.srx (h : SW w0 G g (cH pc rg fl tk rt (sL ram rx ox over came o m s off code ev)).toArray Q w) (s' : St Q) (h1 : rg.length = 32) (h2 : fl.length = 9) (hG : w'.heap[G]? = some (.cells ((cH pc rg fl tk rt (sL ram rx ox over came o m s off code ev)).toArray.setIfInBounds 45 (rx')) 43 (0, 0))) (ho : Only G w w') : SW w0 G g (cH pc rg fl tk rt (sL ram rx' ox over came o m s off code ev)).toArray Q w' := h.put s' h1 h2 1 _ hG ho rfl
theorem SW.sox (h : SW w0 G g (cH pc rg fl tk rt (sL ram rx ox over came o m s off code ev)).toArray Q w) (s' : St Q) (h1 : rg.length = 32) (h2 : fl.length = 9) (hG : w'.heap[G]? = some (.cells ((cH pc rg fl tk rt (sL ram rx ox over came o m s off code ev)).toArray.setIfInBounds 46 (ox')) 43 (0, 0))) (ho : Only G w w') : SW w0 G g (cH pc rg fl tk rt (sL ram rx ox' over came o m s off code ev)).toArray Q w' := h.put s' h1 h2 2 _ hG ho rfl
theorem SW.sov (h : SW w0 G g (cH pc rg fl tk rt (sL ram rx ox over came o m s off code ev)).toArray Q w) (s' : St Q) (h1 : rg.length = 32) (h2 : fl.length = 9) (hG : w'.heap[G]? = some (.cells ((cH pc rg fl tk rt (sL ram rx ox over came o m s off code ev)).toArray.setIfInBounds 47 (.bool over')) 43 (0, 0))) (ho : Only G w w') : SW w0 G g (cH pc rg fl tk rt (sL ram rx ox over' came o m s off code ev)).toArray Q w' := h.put s' h1 h2 3 _ hG ho rfl
theorem SW.sca (h : SW w0 G g (cH pc rg fl tk rt (sL ram rx ox over came o m s off code ev)).toArray Q w) (s' : St Q) (h1 : rg.length = 32) (h2 : fl.length = 9) (hG : w'.heap[G]? = some (.cells ((cH pc rg fl tk rt (sL ram rx ox over came o m s off code ev)).toArray.setIfInBounds 48 (.int .i64 came')) 43 (0, 0))) (ho : Only G w w') : SW w0 G g (cH pc rg fl tk rt (sL ram rx ox over came' o m s off code ev)).toArray Q w' := h.put s' h1 h2 4 _ hG ho rfl
theorem SW.sof (h : SW w0 G g (cH pc rg fl tk rt (sL ram rx ox over came o m s off code ev)).toArray Q w) (s' : St Q) (h1 : rg.length = 32) (h2 : fl.length = 9) (hG : w'.heap[G]? = some (.cells ((cH pc rg fl tk rt (sL ram rx ox over came o m s off code ev)).toArray.setIfInBounds 52 (.bool off')) 43 (0, 0))) (ho : Only G w w') : SW w0 G g (cH pc rg fl tk rt (sL ram rx ox over came o m s off' code ev)).toArray Q w' := h.put s' h1 h2 8 _ hG ho rfl
theorem SW.sco (h : SW w0 G g (cH pc rg fl tk rt (sL ram rx ox over came o m s off code ev)).toArray Q w) (s' : St Q) (h1 : rg.length = 32) (h2 : fl.length = 9) (hG : w'.heap[G]? = some (.cells ((cH pc rg fl tk rt (sL ram rx ox over came o m s off code ev)).toArray.setIfInBounds 53 (.int .u32 code')) 43 (0, 0))) (ho : Only G w w') : SW w0 G g (cH pc rg fl tk rt (sL ram rx ox over came o m s off code' ev)).toArray Q w' := h.put s' h1 h2 9 _ hG ho rfl
theorem SW.sti {o' m' : Int} {s2 : Bool} (h : SW w0 G g (cH pc rg fl tk rt (sL ram rx ox over came o m s off code ev)).toArray Q w) (s' : St Q) (h1 : rg.length = 32) (h2 : fl.length = 9) (hG : w'.heap[G]? = some (.cells (putAt (cH pc rg fl tk rt (sL ram rx ox over came o m s off code ev)).toArray 49 [.int .u64 o', .int .u64 m', .bool s2]) 43 (0, 0))) (ho : Only G w w') : SW w0 G g (cH pc rg fl tk rt (sL ram rx ox over came o' m' s2 off code ev)).toArray Q w' := h.put3 s' h1 h2 5 _ _ _ hG ho rfl
end
theorem SW.add {w0 w : World} {G g : Nat} {a : Array Value} {Q R : World → Prop} (h : SW w0 G g a Q w) (r : R w) : SW w0 G g a (fun w => Q w ∧ R w) w := ⟨h.hG, h.hg, h.ne, h.gG, h.gg, h.b, h.q, r⟩

set_option maxRecDepth 100000 in
theorem waits_own (w : World) {X : Nat → Prop} {C F : Nat} {av vo : Value} {al : List (Int × Int)} {came : Nat} {q : List Int} {over : Bool} {out : List Int} (h : IsCon w X C F av vo al came q over out) : Calls Try.prog 36 #[.pointer (some ⟨C, 0, none⟩)] w fun e w' => ∃ v, e = .returned v ∧ w'.ownsRow w.heap.size 5 1 v q.length (q.map (Value.int .u8)) ∧ Below w.heap.size w w' := by
  have c2 := h.c2
  have HF := Aside0.mk h.f
  clear h
  go_enter Try.func36, Try.ntmps36
  go_wp2_with fail
  refine (callsIn_wide.1 (all_in _ _ _ HF.out)).mono ?_
  rintro e w1 ⟨v, rfl, ho, b1⟩
  go_wp2_with fail
  go_ret
  exact ⟨v, rfl, ho, b1⟩
set_option maxRecDepth 100000 in
theorem out_own (w : World) {X : Nat → Prop} {C F : Nat} {av vo : Value} {al : List (Int × Int)} {came : Nat} {q : List Int} {over : Bool} {out : List Int} (h : IsCon w X C F av vo al came q over out) (ho : out.length ≤ 65536) : Calls Try.prog 37 #[.pointer (some ⟨C, 0, none⟩)] w fun e w' => ∃ v, e = .returned v ∧ w'.ownsRow w.heap.size 5 1 v out.length (out.map (Value.int .u8)) ∧ Below w.heap.size w w' := by
  have c4 := h.c4
  have HC := Aside0.mk (cloneb_owned w vo out ho h.o)
  clear h
  go_enter Try.func37, Try.ntmps37
  go_wp2_with fail
  refine HC.out.mono ?_
  rintro e w1 ⟨v, rfl, o1, b1⟩
  go_wp2_with fail
  go_ret
  exact ⟨v, rfl, o1, b1⟩
theorem own_brow {w : World} {g n base : Nat} {l : List Int} (h : w.heap[g]? = some (.cells (brow l) 5)) (hg : base ≤ g) (hn : l.length = n) (h1 : n ≤ 65536) (h0 : 0 < n) : w.ownsRow base 5 1 (.slice (some ⟨g, 0, none⟩) n n) n (l.map (Value.int .u8)) :=
  ⟨by simp [hn], .inr ⟨g, n, brow l, rfl, hg, h, Nat.le_refl _, by unfold maxLen; omega, by simp [brow, hn], by simp only [brow]; rw [List.take_of_length_le (by simp [hn])]⟩⟩

def postS (w0 : World) (g0 p : Nat) (pc : Int) (rg fl : List Value) (tk rt : Int) (B R : Nat) (ev : Value) (n : Nat) (l : List Int) (CL : Value → World → Prop) (i : Nat) (v : Value) (w : World) : Prop :=
  match i with
  | 0 => v = .pointer (some ⟨p, 0, none⟩)
  | 1 => v = .pointer (some ⟨p, 0, none⟩)
  | 2 => v = .pointer (some ⟨p, 0, none⟩)
  | 3 => v = .int .u32 pc
  | 4 => v = .pointer (some ⟨p, 0, none⟩)
  | 5 => v = .pointer (some ⟨p, 0, none⟩)
  | 6 => v = .pointer (some ⟨p, 1, none⟩)
  | 7 => v = .agg rg.toArray
  | 8 => v = .pointer (some ⟨p, 0, none⟩)
  | 9 => v = .pointer (some ⟨p, 0, none⟩)
  | 10 => v = .pointer (some ⟨p, 33, none⟩)
  | 11 => v = .agg fl.toArray
  | 12 => v = .pointer (some ⟨p, 0, none⟩)
  | 13 => v = .pointer (some ⟨p, 0, none⟩)
  | 14 => v = .pointer (some ⟨p, 42, none⟩)
  | 15 => v = .int .u64 tk
  | 16 => v = .pointer (some ⟨p, 0, none⟩)
  | 17 => v = .pointer (some ⟨p, 0, none⟩)
  | 18 => v = .pointer (some ⟨p, 43, none⟩)
  | 19 => v = .int .u64 rt
  | 20 => v = .pointer (some ⟨p, 0, none⟩)
  | 21 => v = .pointer (some ⟨p, 0, none⟩)
  | 22 => v = .pointer (some ⟨p, 44, none⟩)
  | 23 => v = .pointer (some ⟨B, 0, none⟩)
  | 24 => v = .pointer (some ⟨R, 0, none⟩)
  | 25 => ∃ g, v = .slice (some ⟨g, 0, none⟩) n n ∧ w.ownsRow w0.heap.size 5 1 v n (l.map (Value.int .u8))
  | 26 => v = .pointer (some ⟨p, 0, none⟩)
  | 27 => v = .pointer (some ⟨p, 0, none⟩)
  | 28 => v = .pointer (some ⟨p, 45, none⟩)
  | 29 => v = ev
  | 30 => (∃ A m c, v = .slice A m c) ∧ CL v w
  | 31 => ∃ g m A' m' c', w.ownsRow w0.heap.size 5 1 (.slice (some ⟨g, 0, none⟩) n n) n (l.map (Value.int .u8)) ∧ CL (.slice A' m' c') w ∧ m = n ∧ v = .agg (cH pc rg fl tk rt (sL (.slice (some ⟨g, 0, none⟩) n n) nl nl false 0 0 0 false false 0 (.slice A' m' c'))).toArray
  | 32 => ∃ g, v = .pointer (some ⟨g, 0, none⟩) ∧ w0.heap.size < g + 1 ∧ g0 < g ∧ w.heap[g]? = some (.cells zS 43 (0, 0))
  | _ => True
theorem postS_rg {w0 : World} {g0 p : Nat} {pc : Int} {rg fl : List Value} {tk rt : Int} {B R : Nat} {ev : Value} {n : Nat} {l : List Int} {CL : Value → World → Prop} (hCL : ∀ v, St (CL v)) (j : Nat) (v : Value) (w w' : World) (h : postS w0 g0 p pc rg fl tk rt B R ev n l CL j v w) (k : Below w.heap.size w w') : postS w0 g0 p pc rg fl tk rt B R ev n l CL j v w' := by
  unfold postS at h ⊢
  split at h
  all_goals first
    | exact h
    | (obtain ⟨g, h1, h2⟩ := h; exact ⟨g, h1, owns_below h2 k⟩)
    | (obtain ⟨h1, h2⟩ := h; exact ⟨h1, (hCL _).1 _ _ h2 k⟩)
    | (obtain ⟨g, m, A', m', c', h1, h2, h3, h4⟩ := h; exact ⟨g, m, A', m', c', owns_below h1 k, (hCL _).1 _ _ h2 k, h3, h4⟩)
    | (obtain ⟨g, h1, h2, h3, h4⟩ := h; exact ⟨g, h1, h2, h3, blk_below h4 k⟩)

set_option maxRecDepth 100000 in
set_option maxHeartbeats 8000000 in
/-- All that a machine has. -/
theorem cstate_ok {W w : World} {p : Nat} {pc : Int} {rg fl : List Value} {tk rt : Int} {ev : Value} {B R C T BB BW BG n k : Nat} {X : Nat → Prop} {l : List Int} {ws : List Bool} {gs : List Int} {al : List (Int × Int)} {came : Nat} {q : List Int} {over : Bool} {out : List Int} {o m : Int} {s off : Bool} {code : Int} (h : MC W w p pc rg fl tk rt ev B R C T BB BW BG n k X l ws gs al came q over out o m s off code) (CL : Value → World → Prop) (hCL : ∀ v, St (CL v))
    (hCE : ∀ w', Below w.heap.size w w' → Calls Try.prog 34 #[ev] w' fun e w'' => ∃ A m c, e = .returned (.slice A m c) ∧ CL (.slice A m c) w'' ∧ Below w'.heap.size w' w'') (hn0 : 0 < n) (hout : out.length ≤ 65536) :
    Calls Try.prog 10 #[.pointer (some ⟨p, 0, none⟩)] w fun e w' => ∃ vr vx vo ve, e = .returned (.agg (cH pc rg fl tk rt (sL vr vx vo over came o m s off code ve)).toArray) ∧
      w'.ownsRow w.heap.size 5 1 vr n (l.map (Value.int .u8)) ∧ w'.ownsRow w.heap.size 5 1 vx q.length (q.map (Value.int .u8)) ∧ w'.ownsRow w.heap.size 5 1 vo out.length (out.map (Value.int .u8)) ∧ CL ve w' ∧ (∃ A n c, ve = .slice A n c) ∧ Below w.heap.size w w' := by
  have HM := Aside0.mk h
  have HCE := Aside0.mk hCE
  have HCL := Aside0.mk hCL
  have HN0 := Aside0.mk hn0
  have HOU := Aside0.mk hout
  clear h hCE hCL hn0 hout
  go_enter Try.func10, Try.ntmps10
  obtain ⟨g0, hg0⟩ : ∃ g, w.heap.size = g := ⟨_, rfl⟩
  have HG0 := Aside0.mk hg0
  go_wp2_with (refine wpList_alloc_z rfl 43 rfl zS zS_zero ?_; rw [hg0]; clear hg0; intro w1 hb1 hB1; have HB1 := Aside0.mk hb1; have BB1 := Aside0.mk (show Below w.heap.size w w1 by rw [HG0.out]; exact hB1); have HM1 := Aside0.mk (HM.out.below BB1.out); clear hb1 hB1)
  have HI0 : Aside0 (Below w1.heap.size w1 w1.drew) := ⟨⟨rfl, rfl, rfl, Nat.le_refl _, fun _ _ => rfl⟩⟩
  have HI0' : Aside0 (Below w.heap.size w w1.drew) := ⟨BB1.out.trans (HI0.out.mono BB1.out.size)⟩
  have HGW : Aside0 (g0 < w1.heap.size) := ⟨blk_lt HB1.out⟩
  refine wp_region_rj (by kernel_rfl) 33 (fun W' => Below w1.heap.size w1 W') (fun x y => Below x.heap.size x y) (postS w1 g0 p pc rg fl tk rt B R ev n l CL) (by kernel_rfl) (postS_rg HCL.out) HI0.out ?step ?fin
  case step =>
    intro i o hi him b W' hinv hkeep hdef hpre K hK
    have HI := Aside0.mk hinv
    have HPRE := Aside0.mk hpre
    have HKEEP := Aside0.mk hkeep
    have HKK := Aside0.mk hK
    clear hinv hpre hkeep hK hdef
    obtain rfl | rfl | rfl | rfl | rfl | rfl | rfl | rfl | rfl | rfl | rfl | rfl | rfl | rfl | rfl | rfl | rfl | rfl | rfl | rfl | rfl | rfl | rfl | rfl | rfl | rfl | rfl | rfl | rfl | rfl | rfl | rfl | rfl : i = 0 ∨ i = 1 ∨ i = 2 ∨ i = 3 ∨ i = 4 ∨ i = 5 ∨ i = 6 ∨ i = 7 ∨ i = 8 ∨ i = 9 ∨ i = 10 ∨ i = 11 ∨ i = 12 ∨ i = 13 ∨ i = 14 ∨ i = 15 ∨ i = 16 ∨ i = 17 ∨ i = 18 ∨ i = 19 ∨ i = 20 ∨ i = 21 ∨ i = 22 ∨ i = 23 ∨ i = 24 ∨ i = 25 ∨ i = 26 ∨ i = 27 ∨ i = 28 ∨ i = 29 ∨ i = 30 ∨ i = 31 ∨ i = 32 := by omega
    · cases hi
      have e0 : b.tmps.getD 0 undef = .pointer (some ⟨p, 0, none⟩) := HKEEP.out 0 (by kernel_rfl)
      rw [if_pos (by rfl)]
      go_simp
      exact HKK.out _ _ HI.out (Below.refl _ _) (by first | rfl | (simp; done))
    · cases hi
      have e8 : b.tmps.getD 8 undef = .pointer (some ⟨p, 0, none⟩) := HPRE.out 0 (by kernel_rfl) (by omega)
      rw [if_pos (by rfl)]
      go_simp
      exact HKK.out _ _ HI.out (Below.refl _ _) (by first | rfl | (simp; done))
    · cases hi
      have e9 : b.tmps.getD 9 undef = .pointer (some ⟨p, 0, none⟩) := HPRE.out 1 (by kernel_rfl) (by omega)
      rw [if_pos (by rfl)]
      go_simp
      exact HKK.out _ _ HI.out (Below.refl _ _) (by first | rfl | (simp; done))
    · cases hi
      have e10 : b.tmps.getD 10 undef = .pointer (some ⟨p, 0, none⟩) := HPRE.out 2 (by kernel_rfl) (by omega)
      have hM := HM1.out.im.below HI.out
      have hc := hM.cpc
      rw [if_pos (by rfl)]
      go_simp
      exact HKK.out _ _ HI.out (Below.refl _ _) (by first | rfl | (simp; done))
    · cases hi
      have e0 : b.tmps.getD 0 undef = .pointer (some ⟨p, 0, none⟩) := HKEEP.out 0 (by kernel_rfl)
      rw [if_pos (by rfl)]
      go_simp
      exact HKK.out _ _ HI.out (Below.refl _ _) (by first | rfl | (simp; done))
    · cases hi
      have e12 : b.tmps.getD 12 undef = .pointer (some ⟨p, 0, none⟩) := HPRE.out 4 (by kernel_rfl) (by omega)
      rw [if_pos (by rfl)]
      go_simp
      exact HKK.out _ _ HI.out (Below.refl _ _) (by first | rfl | (simp; done))
    · cases hi
      have e13 : b.tmps.getD 13 undef = .pointer (some ⟨p, 0, none⟩) := HPRE.out 5 (by kernel_rfl) (by omega)
      rw [if_pos (by rfl)]
      go_simp
      exact HKK.out _ _ HI.out (Below.refl _ _) (by first | rfl | (simp; done))
    · cases hi
      have e14 : b.tmps.getD 14 undef = .pointer (some ⟨p, 1, none⟩) := HPRE.out 6 (by kernel_rfl) (by omega)
      have hM := HM1.out.im.below HI.out
      rw [if_pos (by rfl)]
      refine wp_load_mid 25 (.tmp 14) rfl p 1 e14 rg _ hM.rr Try.underlying25 rfl (by rw [hM.r]; kernel_rfl) ?_
      exact HKK.out _ _ HI.out (Below.refl _ _) rfl
    · cases hi
      have e0 : b.tmps.getD 0 undef = .pointer (some ⟨p, 0, none⟩) := HKEEP.out 0 (by kernel_rfl)
      rw [if_pos (by rfl)]
      go_simp
      exact HKK.out _ _ HI.out (Below.refl _ _) (by first | rfl | (simp; done))
    · cases hi
      have e16 : b.tmps.getD 16 undef = .pointer (some ⟨p, 0, none⟩) := HPRE.out 8 (by kernel_rfl) (by omega)
      rw [if_pos (by rfl)]
      go_simp
      exact HKK.out _ _ HI.out (Below.refl _ _) (by first | rfl | (simp; done))
    · cases hi
      have e17 : b.tmps.getD 17 undef = .pointer (some ⟨p, 0, none⟩) := HPRE.out 9 (by kernel_rfl) (by omega)
      rw [if_pos (by rfl)]
      go_simp
      exact HKK.out _ _ HI.out (Below.refl _ _) (by first | rfl | (simp; done))
    · cases hi
      have e18 : b.tmps.getD 18 undef = .pointer (some ⟨p, 33, none⟩) := HPRE.out 10 (by kernel_rfl) (by omega)
      have hM := HM1.out.im.below HI.out
      rw [if_pos (by rfl)]
      refine wp_load_mid 39 (.tmp 18) rfl p 33 e18 fl _ hM.rf Try.underlying39 rfl (by rw [hM.f]; kernel_rfl) ?_
      exact HKK.out _ _ HI.out (Below.refl _ _) rfl
    · cases hi
      have e0 : b.tmps.getD 0 undef = .pointer (some ⟨p, 0, none⟩) := HKEEP.out 0 (by kernel_rfl)
      rw [if_pos (by rfl)]
      go_simp
      exact HKK.out _ _ HI.out (Below.refl _ _) (by first | rfl | (simp; done))
    · cases hi
      have e20 : b.tmps.getD 20 undef = .pointer (some ⟨p, 0, none⟩) := HPRE.out 12 (by kernel_rfl) (by omega)
      rw [if_pos (by rfl)]
      go_simp
      exact HKK.out _ _ HI.out (Below.refl _ _) (by first | rfl | (simp; done))
    · cases hi
      have e21 : b.tmps.getD 21 undef = .pointer (some ⟨p, 0, none⟩) := HPRE.out 13 (by kernel_rfl) (by omega)
      rw [if_pos (by rfl)]
      go_simp
      exact HKK.out _ _ HI.out (Below.refl _ _) (by first | rfl | (simp; done))
    · cases hi
      have e22 : b.tmps.getD 22 undef = .pointer (some ⟨p, 42, none⟩) := HPRE.out 14 (by kernel_rfl) (by omega)
      have hM := HM1.out.im.below HI.out
      have hc := hM.ctk
      rw [if_pos (by rfl)]
      go_simp
      exact HKK.out _ _ HI.out (Below.refl _ _) (by first | rfl | (simp; done))
    · cases hi
      have e0 : b.tmps.getD 0 undef = .pointer (some ⟨p, 0, none⟩) := HKEEP.out 0 (by kernel_rfl)
      rw [if_pos (by rfl)]
      go_simp
      exact HKK.out _ _ HI.out (Below.refl _ _) (by first | rfl | (simp; done))
    · cases hi
      have e24 : b.tmps.getD 24 undef = .pointer (some ⟨p, 0, none⟩) := HPRE.out 16 (by kernel_rfl) (by omega)
      rw [if_pos (by rfl)]
      go_simp
      exact HKK.out _ _ HI.out (Below.refl _ _) (by first | rfl | (simp; done))
    · cases hi
      have e25 : b.tmps.getD 25 undef = .pointer (some ⟨p, 0, none⟩) := HPRE.out 17 (by kernel_rfl) (by omega)
      rw [if_pos (by rfl)]
      go_simp
      exact HKK.out _ _ HI.out (Below.refl _ _) (by first | rfl | (simp; done))
    · cases hi
      have e26 : b.tmps.getD 26 undef = .pointer (some ⟨p, 43, none⟩) := HPRE.out 18 (by kernel_rfl) (by omega)
      have hM := HM1.out.im.below HI.out
      have hc := hM.crt
      rw [if_pos (by rfl)]
      go_simp
      exact HKK.out _ _ HI.out (Below.refl _ _) (by first | rfl | (simp; done))
    · cases hi
      have e0 : b.tmps.getD 0 undef = .pointer (some ⟨p, 0, none⟩) := HKEEP.out 0 (by kernel_rfl)
      rw [if_pos (by rfl)]
      go_simp
      exact HKK.out _ _ HI.out (Below.refl _ _) (by first | rfl | (simp; done))
    · cases hi
      have e28 : b.tmps.getD 28 undef = .pointer (some ⟨p, 0, none⟩) := HPRE.out 20 (by kernel_rfl) (by omega)
      rw [if_pos (by rfl)]
      go_simp
      exact HKK.out _ _ HI.out (Below.refl _ _) (by first | rfl | (simp; done))
    · cases hi
      have e29 : b.tmps.getD 29 undef = .pointer (some ⟨p, 0, none⟩) := HPRE.out 21 (by kernel_rfl) (by omega)
      rw [if_pos (by rfl)]
      go_simp
      exact HKK.out _ _ HI.out (Below.refl _ _) (by first | rfl | (simp; done))
    · cases hi
      have e30 : b.tmps.getD 30 undef = .pointer (some ⟨p, 44, none⟩) := HPRE.out 22 (by kernel_rfl) (by omega)
      have hM := HM1.out.im.below HI.out
      have hc := hM.cb
      rw [if_pos (by rfl)]
      go_simp
      exact HKK.out _ _ HI.out (Below.refl _ _) (by first | rfl | (simp; done))
    · cases hi
      have e31 : b.tmps.getD 31 undef = .pointer (some ⟨B, 0, none⟩) := HPRE.out 23 (by kernel_rfl) (by omega)
      rw [if_pos (by rfl)]
      go_simp
      refine (bram_calls _ (HM1.out.ib.b.below HI.out)).mono ?_
      rintro e W2 ⟨rfl, d⟩
      exact HKK.out _ _ (below_on HI.out d.below) d.below rfl
    · cases hi
      have e32 : b.tmps.getD 32 undef = .pointer (some ⟨R, 0, none⟩) := HPRE.out 24 (by kernel_rfl) (by omega)
      rw [if_pos (by rfl)]
      go_simp
      refine (bytes_calls _ (HM1.out.ib.r.below HI.out) HM1.out.ib.n0).mono ?_
      rintro e W2 ⟨rfl, hb, d⟩
      exact HKK.out _ _ (below_on HI.out d) d ⟨_, rfl, own_brow hb HI.out.size HM1.out.ib.r.nl HM1.out.ib.n0 HN0.out⟩
    · cases hi
      have e0 : b.tmps.getD 0 undef = .pointer (some ⟨p, 0, none⟩) := HKEEP.out 0 (by kernel_rfl)
      rw [if_pos (by rfl)]
      go_simp
      exact HKK.out _ _ HI.out (Below.refl _ _) (by first | rfl | (simp; done))
    · cases hi
      have e34 : b.tmps.getD 34 undef = .pointer (some ⟨p, 0, none⟩) := HPRE.out 26 (by kernel_rfl) (by omega)
      rw [if_pos (by rfl)]
      go_simp
      exact HKK.out _ _ HI.out (Below.refl _ _) (by first | rfl | (simp; done))
    · cases hi
      have e35 : b.tmps.getD 35 undef = .pointer (some ⟨p, 0, none⟩) := HPRE.out 27 (by kernel_rfl) (by omega)
      rw [if_pos (by rfl)]
      go_simp
      exact HKK.out _ _ HI.out (Below.refl _ _) (by first | rfl | (simp; done))
    · cases hi
      have e36 : b.tmps.getD 36 undef = .pointer (some ⟨p, 45, none⟩) := HPRE.out 28 (by kernel_rfl) (by omega)
      have hM := HM1.out.im.below HI.out
      have hc := hM.cev
      rw [if_pos (by rfl)]
      go_simp
      exact HKK.out _ _ HI.out (Below.refl _ _) (by first | rfl | (simp; done))
    · cases hi
      have e37 : b.tmps.getD 37 undef = ev := HPRE.out 29 (by kernel_rfl) (by omega)
      rw [if_pos (by rfl)]
      go_simp
      refine (HCE.out _ (BB1.out.trans (HI.out.mono BB1.out.size))).mono ?_
      rintro e W2 ⟨A, m, c, rfl, hc, d⟩
      exact HKK.out _ _ (below_on HI.out d) d ⟨⟨A, m, c, rfl⟩, hc⟩
    · cases hi
      have e11 : b.tmps.getD 11 undef = .int .u32 pc := HPRE.out 3 (by kernel_rfl) (by omega)
      have e23 : b.tmps.getD 23 undef = .int .u64 tk := HPRE.out 15 (by kernel_rfl) (by omega)
      have e27 : b.tmps.getD 27 undef = .int .u64 rt := HPRE.out 19 (by kernel_rfl) (by omega)
      have e15 : b.tmps.getD 15 undef = .agg rg.toArray := HPRE.out 7 (by kernel_rfl) (by omega)
      have e19 : b.tmps.getD 19 undef = .agg fl.toArray := HPRE.out 11 (by kernel_rfl) (by omega)
      obtain ⟨g, e33, ho⟩ := HPRE.out 25 (by kernel_rfl) (by omega)
      obtain ⟨⟨A, m, c, e38⟩, hcl⟩ := HPRE.out 30 (by kernel_rfl) (by omega)
      have e33 : b.tmps.getD 33 undef = .slice (some ⟨g, 0, none⟩) n n := e33
      have e38 : b.tmps.getD 38 undef = .slice A m c := e38
      change W'.ownsRow w1.heap.size 5 1 (b.tmps.getD 33 undef) n (l.map (Value.int .u8)) at ho
      rw [e33] at ho
      change CL (b.tmps.getD 38 undef) W' at hcl
      rw [e38] at hcl
      rw [if_pos (by rfl)]
      refine wp_build_eq 43 #[(0, .tmp 11), (1, .tmp 15), (2, .tmp 19), (3, .tmp 23), (4, .tmp 27), (5, .tmp 33), (13, .tmp 38)] rfl (cH pc rg fl tk rt (sL (.slice (some ⟨g, 0, none⟩) n n) nl nl false 0 0 0 false false 0 (.slice A m c))).toArray ?_ ?_
      rotate_left
      · exact HKK.out _ _ HI.out (Below.refl _ _) ⟨g, n, A, m, c, ho, hcl, rfl, rfl⟩
      · simp only [List.map_toArray, List.map_cons, List.map_nil]
        rw [show b.eval (.tmp 11) = _ from e11, show b.eval (.tmp 15) = _ from e15, show b.eval (.tmp 19) = _ from e19, show b.eval (.tmp 23) = _ from e23, show b.eval (.tmp 27) = _ from e27, show b.eval (.tmp 33) = _ from e33, show b.eval (.tmp 38) = _ from e38]
        exact st_built HM1.out.im.r HM1.out.im.f _ _ _ _ _ _
    · cases hi
      rw [if_pos (by rfl)]
      refine wp_alloc_z 43 rfl zS zS_zero ?_
      intro W2 h2 d2
      exact HKK.out _ _ (below_on HI.out d2) d2 ⟨_, rfl, by have := HI.out.size; omega, by have := HI.out.size; have := HGW.out; omega, h2⟩
  case fin =>
    intro b W' hinv hsz hdef hkeep hpost
    obtain ⟨gr, mr, A', m', c', ho, hcl, h38, h39⟩ := hpost 31 (by omega)
    obtain ⟨G, h3, hG1, hG2, hG3⟩ := hpost 32 (by omega)
    have e39 : b.tmps.getD 39 undef = .agg (cH pc rg fl tk rt (sL (.slice (some ⟨gr, 0, none⟩) n n) nl nl false 0 0 0 false false 0 (.slice A' m' c'))).toArray := h39
    have e3 : b.tmps.getD 3 undef = .pointer (some ⟨G, 0, none⟩) := h3
    clear h3 h39 h38
    have k0 : b.tmps.getD 0 undef = .pointer (some ⟨p, 0, none⟩) := hkeep 0 (by kernel_rfl)
    have k2 : b.tmps.getD 2 undef = .pointer (some ⟨g0, 0, none⟩) := hkeep 2 (by kernel_rfl)
    refine rj_lastv (by kernel_rfl) rfl (by kernel_rfl) rfl (by kernel_rfl) ?_
    refine wp_store_arr 43 (.tmp 3) (.tmp 39) rfl G e3 _ e39 zS 43 hG3 (by rw [zS_size, cH_size HM1.out.im.r HM1.out.im.f]; rfl) (by rw [cH_size HM1.out.im.r HM1.out.im.f]; exact st_size) (cH_one HM1.out.im.r1 HM1.out.im.f1 (by simp [sL, nl, Value.oneCell'])) ?_
    intro w2 hf hoG
    have HW2 : Aside0 (SW w G g0 (cH pc rg fl tk rt (sL (.slice (some ⟨gr, 0, none⟩) n n) nl nl false 0 0 0 false false 0 (.slice A' m' c'))).toArray (fun w' => w'.ownsRow w.heap.size 5 1 (.slice (some ⟨gr, 0, none⟩) n n) n (l.map (Value.int .u8)) ∧ CL (.slice A' m' c') w') w2) :=
      ⟨⟨hf, blk_only (blk_below HB1.out hinv) hoG (by omega), by omega, by have := BB1.out.size; omega, by have := HG0.out; omega, hoG.below (by have := BB1.out.size; omega) (BB1.out.trans (hinv.mono BB1.out.size)),
        st_own.2 _ _ _ _ (con_zero_base ho BB1.out.size) hG3 hoG, (HCL.out _).2 _ _ _ _ hcl hG3 hoG⟩⟩
    have HST : Aside0 (St (fun w' => w'.ownsRow w.heap.size 5 1 (.slice (some ⟨gr, 0, none⟩) n n) n (l.map (Value.int .u8)) ∧ CL (.slice A' m' c') w')) := ⟨st_own.and (HCL.out _)⟩
    obtain ⟨sl, hlit, hsl⟩ := act_let b 76 hsz
    rw [hdef] at hlit
    rw [← hsl] at k0 k2 e3
    simp only [show List.range 76 = [0, 1, 2, 3, 4, 5, 6, 7, 8, 9, 10, 11, 12, 13, 14, 15, 16, 17, 18, 19, 20, 21, 22, 23, 24, 25, 26, 27, 28, 29, 30, 31, 32, 33, 34, 35, 36, 37, 38, 39, 40, 41, 42, 43, 44, 45, 46, 47, 48, 49, 50, 51, 52, 53, 54, 55, 56, 57, 58, 59, 60, 61, 62, 63, 64, 65, 66, 67, 68, 69, 70, 71, 72, 73, 74, 75] from rfl, List.map_cons, List.map_nil, e3, k0, k2] at hlit
    rw [hlit]
    clear hkeep hsz hdef hpost e39 e3 k0 k2 hsl hlit hinv hf hoG hG1 hG2 hG3 ho hcl
    obtain ⟨Q0, hQ0⟩ : ∃ Q : World → Prop, Q = (fun w' : World => w'.ownsRow w.heap.size 5 1 (.slice (some ⟨gr, 0, none⟩) n n) n (l.map (Value.int .u8)) ∧ CL (.slice A' m' c') w') := ⟨_, rfl⟩
    rw [← hQ0] at HW2 HST
    have HQ0 := Aside0.mk hQ0
    clear hQ0
    have HM2 := Aside0.mk (HM.out.below HW2.out.b)
    clear HM1 HB1 BB1 HI0 HI0' HGW HCE HCL
    have hcb := HM2.out.im.cb
    go_simp
    go_wp2_with fail
    refine (bcon_calls _ HM2.out.ib.b).mono ?_
    rintro e w3 ⟨rfl, d⟩
    have HW3 := Aside0.mk (HW2.out.below HST.out d.below)
    have HM3 := Aside0.mk (HM.out.below HW3.out.b)
    clear HM2 HW2 hcb d
    go_wp2_with fail
    obtain ⟨F, av, vo, hi⟩ := HM3.out.ib.c.1
    refine (waits_own _ hi).mono ?_
    rintro e w4 ⟨v4, rfl, o4, d⟩
    obtain ⟨A4, c4, rfl⟩ := owns_form o4
    have HW4 := Aside0.mk ((HW3.out.below HST.out d).add (R := fun w' => w'.ownsRow w.heap.size 5 1 (.slice A4 q.length c4) q.length (q.map (Value.int .u8))) (con_zero_base o4 HW3.out.b.size))
    have HST4 := Aside0.mk (HST.out.and (st_own (base := w.heap.size) (v := .slice A4 q.length c4) (n := q.length) (xs := q.map (Value.int .u8))))
    have HM4 := Aside0.mk (HM.out.below HW4.out.b)
    clear HM3 HW3 o4 d hi HST
    obtain ⟨Q4, hQ4⟩ : ∃ Q : World → Prop, Q = (fun w' : World => Q0 w' ∧ w'.ownsRow w.heap.size 5 1 (.slice A4 q.length c4) q.length (q.map (Value.int .u8))) := ⟨_, rfl⟩
    rw [← hQ4] at HW4 HST4
    have HQ4 := Aside0.mk hQ4
    clear hQ4
    go_wp2_with fail
    obtain ⟨F, av, vo, hi⟩ := HM4.out.ib.c.1
    refine (out_own _ hi HOU.out).mono ?_
    rintro e w5 ⟨v5, rfl, o5, d⟩
    obtain ⟨A5, c5, rfl⟩ := owns_form o5
    have HW5 := Aside0.mk ((HW4.out.below HST4.out d).add (R := fun w' => w'.ownsRow w.heap.size 5 1 (.slice A5 out.length c5) out.length (out.map (Value.int .u8))) (con_zero_base o5 HW4.out.b.size))
    have HST5 := Aside0.mk (HST4.out.and (st_own (base := w.heap.size) (v := .slice A5 out.length c5) (n := out.length) (xs := out.map (Value.int .u8))))
    have HM5 := Aside0.mk (HM.out.below HW5.out.b)
    clear HM4 HW4 o5 d hi HST4
    obtain ⟨Q5, hQ5⟩ : ∃ Q : World → Prop, Q = (fun w' : World => Q4 w' ∧ w'.ownsRow w.heap.size 5 1 (.slice A5 out.length c5) out.length (out.map (Value.int .u8))) := ⟨_, rfl⟩
    rw [← hQ5] at HW5 HST5
    have HQ5 := Aside0.mk hQ5
    clear hQ5
    go_wp2_with fail
    refine (kc_over HM5.out.ib.c).mono ?_
    rintro e w6 ⟨rfl, d⟩
    have HW6 := Aside0.mk (HW5.out.below HST5.out d.below)
    have HM6 := Aside0.mk (HM.out.below HW6.out.b)
    clear HM5 HW5 d
    go_wp2_with fail
    refine (kc_came HM6.out.ib.c).mono ?_
    rintro e w7 ⟨rfl, d⟩
    have HW7 := Aside0.mk (HW6.out.below HST5.out d.below)
    have HM7 := Aside0.mk (HM.out.below HW7.out.b)
    clear HM6 HW6 d
    have HMR := Aside0.mk HM.out.im.r
    have HMF := Aside0.mk HM.out.im.f
    go_wp2_with (first
      | (refine wpList_store_cell rfl 40 (.tmp 53) (.tmp 46) rfl G 45 (.slice A4 q.length c4) rfl rfl rfl _ 43 HW7.out.hG (lt_sL HMR.out HMF.out (by decide)) (by kernel_rfl) ?_; intro w8 hf ho; have HW8 : Aside0 (SW w G g0 (cH pc rg fl tk rt (sL (.slice (some ⟨gr, 0, none⟩) n n) (.slice A4 q.length c4) nl false 0 0 0 false false 0 (.slice A' m' c'))).toArray Q5 w8) := ⟨HW7.out.put HST5.out HMR.out HMF.out 1 (.slice A4 q.length c4) hf ho rfl⟩; have HM8 := Aside0.mk (HM.out.below HW8.out.b); have hcb8 := HM8.out.im.cb; clear hf ho HW7)
      | (refine wpList_store_cell rfl 40 (.tmp 54) (.tmp 48) rfl G 46 (.slice A5 out.length c5) rfl rfl rfl _ 43 HW8.out.hG (lt_sL HMR.out HMF.out (by decide)) (by kernel_rfl) ?_; intro w9 hf ho; have HW9 : Aside0 (SW w G g0 (cH pc rg fl tk rt (sL (.slice (some ⟨gr, 0, none⟩) n n) (.slice A4 q.length c4) (.slice A5 out.length c5) false 0 0 0 false false 0 (.slice A' m' c'))).toArray Q5 w9) := ⟨HW8.out.put HST5.out HMR.out HMF.out 2 (.slice A5 out.length c5) hf ho rfl⟩; have HM9 := Aside0.mk (HM.out.below HW9.out.b); have hcb9 := HM9.out.im.cb; clear hf ho HW8)
      | (refine wpList_store_cell rfl 4 (.tmp 55) (.tmp 50) rfl G 47 (.bool over) rfl rfl rfl _ 43 HW9.out.hG (lt_sL HMR.out HMF.out (by decide)) (by kernel_rfl) ?_; intro w10 hf ho; have HW10 : Aside0 (SW w G g0 (cH pc rg fl tk rt (sL (.slice (some ⟨gr, 0, none⟩) n n) (.slice A4 q.length c4) (.slice A5 out.length c5) over 0 0 0 false false 0 (.slice A' m' c'))).toArray Q5 w10) := ⟨HW9.out.put HST5.out HMR.out HMF.out 3 (.bool over) hf ho rfl⟩; have HM10 := Aside0.mk (HM.out.below HW10.out.b); have hcb10 := HM10.out.im.cb; clear hf ho HW9)
      | (refine wpList_store_cell rfl 3 (.tmp 56) (.tmp 52) rfl G 48 (.int .i64 (came : Int)) rfl rfl rfl _ 43 HW10.out.hG (lt_sL HMR.out HMF.out (by decide)) (by kernel_rfl) ?_; intro w11 hf ho; have HW11 : Aside0 (SW w G g0 (cH pc rg fl tk rt (sL (.slice (some ⟨gr, 0, none⟩) n n) (.slice A4 q.length c4) (.slice A5 out.length c5) over came 0 0 false false 0 (.slice A' m' c'))).toArray Q5 w11) := ⟨HW10.out.put HST5.out HMR.out HMF.out 4 (.int .i64 (came : Int)) hf ho rfl⟩; have HM11 := Aside0.mk (HM.out.below HW11.out.b); have hcb11 := HM11.out.im.cb; clear hf ho HW10))
    clear HM7 HM8 HM9 HM10 hcb8 hcb9 hcb10
    refine (btim_calls _ HM11.out.ib.b).mono ?_
    rintro e w12 ⟨rfl, d⟩
    have HW12 := Aside0.mk (HW11.out.below HST5.out d.below)
    have HM12 := Aside0.mk (HM.out.below HW12.out.b)
    clear HM11 HW11 d hcb11
    go_wp2_with (first
      | ((with_reducible refine gate_dst (N := 63) rfl ?_); refine wpList_load_arr rfl 41 (.tmp 62) rfl T rfl #[.int .u64 o, .int .u64 m, .bool s] HM12.out.ib.t _ Try.underlying41 rfl (by kernel_rfl) ?_)
      | ((with_reducible refine gate_store (t := 41) (p := 64) (v := .tmp 63) rfl ?_); refine wpList_store_part rfl 41 (.tmp 64) (.tmp 63) rfl G 49 #[.int .u64 o, .int .u64 m, .bool s] rfl rfl (by simp [Value.oneCell']) _ 43 HW12.out.hG (by rw [sz_sL HMR.out HMF.out]; exact (by decide : 52 ≤ 55)) (show (Try.prog.info? 41).map (·.size) = some 3 by kernel_rfl) ?_; intro w13 hf ho; have HW13 : Aside0 (SW w G g0 (cH pc rg fl tk rt (sL (.slice (some ⟨gr, 0, none⟩) n n) (.slice A4 q.length c4) (.slice A5 out.length c5) over came o m s false 0 (.slice A' m' c'))).toArray Q5 w13) := ⟨HW12.out.sti HST5.out HMR.out HMF.out hf ho⟩; have HM13 := Aside0.mk (HM.out.below HW13.out.b); have hcb13 := HM13.out.im.cb; clear hf ho HW12))
    clear HM12
    refine (boff_calls _ HM13.out.ib.b).mono ?_
    rintro e w14 ⟨rfl, d⟩
    have HW14 := Aside0.mk (HW13.out.below HST5.out d.below)
    have HM14 := Aside0.mk (HM.out.below HW14.out.b)
    clear HM13 HW13 d hcb13
    go_wp2_with (first
      | (refine wpList_store_cell rfl 24 (.tmp 73) (.tmp 71) rfl G 53 (.int .u32 code) rfl rfl rfl _ 43 HW14.out.hG (lt_sL HMR.out HMF.out (by decide)) (by kernel_rfl) ?_; intro w15 hf ho; have HW15 : Aside0 (SW w G g0 (cH pc rg fl tk rt (sL (.slice (some ⟨gr, 0, none⟩) n n) (.slice A4 q.length c4) (.slice A5 out.length c5) over came o m s false code (.slice A' m' c'))).toArray Q5 w15) := ⟨HW14.out.put HST5.out HMR.out HMF.out 9 (.int .u32 code) hf ho rfl⟩; have HM15 := Aside0.mk (HM.out.below HW15.out.b); have hcb15 := HM15.out.im.cb; clear hf ho HW14)
      | (refine wpList_store_cell rfl 4 (.tmp 74) (.tmp 72) rfl G 52 (.bool off) rfl rfl rfl _ 43 HW15.out.hG (lt_sL HMR.out HMF.out (by decide)) (by kernel_rfl) ?_; intro w16 hf ho; have HW16 : Aside0 (SW w G g0 (cH pc rg fl tk rt (sL (.slice (some ⟨gr, 0, none⟩) n n) (.slice A4 q.length c4) (.slice A5 out.length c5) over came o m s off code (.slice A' m' c'))).toArray Q5 w16) := ⟨HW15.out.put HST5.out HMR.out HMF.out 8 (.bool off) hf ho rfl⟩; have HM16 := Aside0.mk (HM.out.below HW16.out.b); have hcb16 := HM16.out.im.cb; clear hf ho HW15)
      | ((with_reducible refine gate_dst (N := 75) rfl ?_); refine wpList_load_arr rfl 43 (.tmp 3) rfl G rfl _ HW16.out.hG _ Try.underlying43 rfl (by rw [cH_size HMR.out HMF.out]; exact st_size) ?_)
      | ((with_reducible refine gate_store (t := 43) (p := 2) (v := .tmp 75) rfl ?_); refine wpList_store_arr rfl 43 (.tmp 2) (.tmp 75) rfl g0 rfl (cH pc rg fl tk rt (sL (.slice (some ⟨gr, 0, none⟩) n n) (.slice A4 q.length c4) (.slice A5 out.length c5) over came o m s off code (.slice A' m' c'))).toArray rfl zS 43 HW16.out.hg (by rw [zS_size, cH_size HMR.out HMF.out]; rfl) (by rw [cH_size HMR.out HMF.out]; exact st_size) (cH_one HM.out.im.r1 HM.out.im.f1 (by simp [sL, nl, Value.oneCell'])) ?_; intro w17 hf ho; have HF17 := Aside0.mk hf; have HO17 := Aside0.mk ho; clear hf ho))
    have q5 := HST5.out.2 _ _ _ _ HW16.out.q HW16.out.hg HO17.out
    rw [HQ5.out, HQ4.out, HQ0.out] at q5
    obtain ⟨⟨⟨r1, r2⟩, r3⟩, r4⟩ := q5
    refine bodyPost_ret (results_cell_row rfl _ _ g0 43 (cH pc rg fl tk rt (sL (.slice (some ⟨gr, 0, none⟩) n n) (.slice A4 q.length c4) (.slice A5 out.length c5) over came o m s off code (.slice A' m' c'))).toArray (0, 0) _ rfl HF17.out Try.underlying43 rfl (by rw [cH_size HMR.out HMF.out]; exact st_size)) rfl ⟨_, _, _, _, rfl, r1, r3, r4, r2, ⟨_, _, _, rfl⟩, HO17.out.below HW16.out.gg HW16.out.b⟩
end Go.Proofs.Ytfnbpmkbjbibkaa
