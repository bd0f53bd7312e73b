/- The law CpuSame. (PK=QCpuSame) -/
import Derived.Test.YtfnbpmkbjbibkaaCpuBegin
import Derived.Test.YtfnbpmkbjbibkaaCpuSm
import Derived.Test.YtfnbpmkbjbibkaaCpuAw
import Derived.BigQuiet
import Derived.Great.BuildSlice
import Derived.Deep.CutBlock
import Derived.Deep.DeepCutAuto
namespace Go.Proofs.Ytfnbpmkbjbibkaa
open Go Go.RowKit Go.Deep Go.Great Go.Proofs.YtfnbpmkbjbibkaaW.PrintWords Go.Proofs.Ytfnbpmkbjbibkaa.QCpuSame
set_option linter.unusedVariables false
set_option linter.unusedSimpArgs false

/-- A row of bytes that can be read. -/
def RB (w : World) (v : Value) (l : List Int) : Prop := ∃ A c, v = .slice A l.length c ∧ l.length ≤ c ∧ (Kd.int .u8).C w A l.length l
theorem RB.of_own {w : World} {base n : Nat} {v : Value} {l : List Int} (h : w.ownsRow base 5 1 v n (l.map (Value.int .u8))) (hm : n ≤ 65536) : RB w v l := by
  have hn : l.length = n := by have := h.1; simpa using this
  subst hn
  rcases h.2 with ⟨rfl, h0⟩ | ⟨g, cap, cur, rfl, _, _, hc, _⟩
  · obtain rfl : l = [] := List.eq_nil_of_length_eq_zero h0
    exact ⟨none, 0, rfl, Nat.le_refl _, Kd.C_nil _ _⟩
  · refine ⟨some ⟨g, 0, none⟩, cap, rfl, hc, rfl, by omega, fun _ => ⟨_, rfl, fun j p hp => ⟨[.int .u8 p], rfl, rfl, fun i u hu => ?_⟩⟩⟩
    have hi : i = 0 := by
      have := (List.getElem?_eq_some_iff.1 hu).1
      simp at this; omega
    subst hi
    simp at hu
    subst hu
    have := h.cells rfl j (Value.int .u8 p) (by rw [List.getElem?_map, hp]; rfl)
    rw [show j * (Kd.int IntKind.u8).sz + 0 = j by show j * 1 + 0 = j; omega]
    exact this
theorem RB.nil (w : World) (A : Option Addr) (c : Nat) : RB w (.slice A 0 c) [] := ⟨A, c, rfl, Nat.zero_le _, rfl, by decide, fun h => absurd h (Nat.lt_irrefl 0)⟩
theorem RB.below {w w' : World} {v : Value} {l : List Int} (h : RB w v l) (k : Below w.heap.size w w') : RB w' v l := by
  obtain ⟨A, c, h1, h2, h3⟩ := h
  exact ⟨A, c, h1, h2, Kd.C_below h3 k⟩
theorem eqb_loop (l l' : List Int) (hl : l.length ≤ 1000000) (he : l.length = l'.length) : ∀ (d k i : Nat), i + d = l.length → d < k → slices_Equal_byte_byte.l0 k l l' (l.length : Int) (i : Int) = some (decide (l.drop i = l'.drop i)) := by
  intro d
  induction d with
  | zero =>
    intro k i hi hk
    obtain ⟨k, rfl⟩ : ∃ m, k = m + 1 := ⟨k - 1, by omega⟩
    simp only [slices_Equal_byte_byte.l0]
    rw [if_neg (by omega), List.drop_eq_nil_of_le (by omega), List.drop_eq_nil_of_le (by omega)]
    simp
  | succ d ih =>
    intro k i hi hk
    obtain ⟨k, rfl⟩ : ∃ m, k = m + 1 := ⟨k - 1, by omega⟩
    simp only [slices_Equal_byte_byte.l0]
    have hw : wrap64 ((i : Int) + 1) = ((i + 1 : Nat) : Int) := by unfold wrap64; omega
    have h1 : i < l.length := by omega
    have h2 : i < l'.length := by omega
    have r1 : rd l (i : Int) = l[i] := by simp [rd, List.getD_eq_getElem?_getD, List.getElem?_eq_getElem h1]
    have r2 : rd l' (i : Int) = l'[i] := by simp [rd, List.getD_eq_getElem?_getD, List.getElem?_eq_getElem h2]
    have d1 := List.drop_eq_getElem_cons h1
    have d2 := List.drop_eq_getElem_cons h2
    rw [if_pos (by omega), if_pos (by omega), if_pos (by omega), if_pos (by omega), r1, r2, hw, d1, d2]
    by_cases hx : l[i] = l'[i]
    · rw [if_pos hx, ih k (i + 1) (by omega) (by omega)]
      refine congrArg some (decide_eq_decide.2 ?_)
      rw [List.cons.injEq]
      exact ⟨fun h => ⟨hx, h⟩, fun h => h.2⟩
    · rw [if_neg hx]
      exact congrArg some (decide_eq_false fun h => hx (List.cons.inj h).1).symm
theorem eqb_f (l l' : List Int) (hl : l.length ≤ 1000000) : slices_Equal_byte_byte.f (l.length + 1) l l' = some (decide (l = l')) := by
  unfold slices_Equal_byte_byte.f
  by_cases he : l.length = l'.length
  · rw [if_pos (by omega)]
    exact eqb_loop l l' hl he l.length (l.length + 1) 0 (by omega) (by omega)
  · rw [if_neg (by omega)]
    congr 1
    symm
    exact decide_eq_false fun h => he (by rw [h])
theorem eqb_calls {w : World} {v v' : Value} {l l' : List Int} (h : RB w v l) (h' : RB w v' l') (hl : l.length ≤ 1000000) : Calls Try.prog 42 #[v, v'] w fun e w' => e = .returned (.bool (decide (l = l'))) ∧ Below w.heap.size w w' := by
  obtain ⟨A, c, rfl, h1, h2⟩ := h
  obtain ⟨A', c', rfl, h3, h4⟩ := h'
  exact (slices_Equal_byte_byte.calls (l.length + 1) A c l A' c' l' _ w h2 h1 h4 h3 (eqb_f l l' hl)).mono fun e w2 ⟨a, b⟩ => ⟨a, b.below⟩

theorem cH_inj {pc pc' : Int} {rg rg' fl fl' : List Value} {tk tk' rt rt' : Int} {L L' : List Value} (h1 : rg.length = rg'.length) (h2 : fl.length = fl'.length) (h : cH pc rg fl tk rt L = cH pc' rg' fl' tk' rt' L') : pc = pc' ∧ rg = rg' ∧ fl = fl' ∧ tk = tk' ∧ L = L' := by
  obtain ⟨a, b⟩ := List.cons.inj h
  obtain ⟨c, d⟩ := List.append_inj b h1
  obtain ⟨e, f⟩ := List.append_inj d h2
  obtain ⟨g, i⟩ := List.cons.inj f
  obtain ⟨j, k⟩ := List.cons.inj i
  cases a; cases g
  exact ⟨rfl, c, e, rfl, k⟩

/-- What the switch leaves. -/
structure JB (U : World) (G N : Nat) (w : World) (pc : Int) (rg fl : List Value) (tk rt : Int) (ram rx ox : Value) (ov : Bool) (o m : Int) (s off : Bool) (ev : Value) (lr qx qo : List Int) (es : List (List Value)) : Prop where
  h : w.heap[G]? = some (.cells (cH pc rg fl tk rt (sL ram rx ox ov 0 o m s off 0 ev)).toArray 43 (0, 0))
  kr : Fits (List.replicate 32 (some .u32)) rg
  kf : Fits kF fl
  r : RB w ram lr
  x : RB w rx qx
  q : RB w ox qo
  e : ∃ A c, ev = .slice A es.length c ∧ ES w A es
  n : es.length ≤ 1
  b : Below U.heap.size U w
theorem JB.below {U : World} {G N : Nat} {w w' : World} {pc : Int} {rg fl : List Value} {tk rt : Int} {ram rx ox : Value} {ov : Bool} {o m : Int} {s off : Bool} {ev : Value} {lr qx qo : List Int} {es : List (List Value)} (h : JB U G N w pc rg fl tk rt ram rx ox ov o m s off ev lr qx qo es) (k : Below w.heap.size w w') : JB U G N w' pc rg fl tk rt ram rx ox ov o m s off ev lr qx qo es := by
  obtain ⟨A, c, h1, h2⟩ := h.e
  exact ⟨blk_below h.h k, h.kr, h.kf, h.r.below k, h.x.below k, h.q.below k, ⟨A, c, h1, h2.below k⟩, h.n, below_on h.b k⟩
theorem RB.one {w : World} {v : Value} {l : List Int} (h : RB w v l) : v.oneCell' = true := by obtain ⟨A, c, rfl, _⟩ := h; rfl
set_option maxHeartbeats 1000000 in
theorem JB.smin {U : World} {G N : Nat} {w : World} {pc' : Int} {rg' fl' : List Value} {tk' rt : Int} {ram rx ox : Value} {ov : Bool} {o m' : Int} {s off : Bool} {ev : Value} {lr qx qo : List Int} {es : List (List Value)} (h : JB U G N w pc' rg' fl' tk' rt ram rx ox ov o m' s off ev lr qx qo es)
    {vr vx vo ve : Value} {l : List Int} {pc : Int} {rg fl : List Value} {tk m : Int} (hr : RB w vr l) (hx : RB w vx []) (ho : RB w vo []) (he : ∃ A c, ve = .slice A 0 c) (kr : Fits (List.replicate 32 (some .u32)) rg) (kf : Fits kF fl) (hl : l.length ≤ 1000000) :
    ∃ x0 x1 x2 x3 x4, SmIn w x0 x1 x2 x3 x4 pc rg fl tk rt vr vx vo false 0 o m s false 0 ve pc' rg' fl' tk' rt ram rx ox ov 0 o m' s off 0 ev ∧
      ((x0 && x1 && x2 && x3 && x4) = true ↔ (cH pc rg fl tk rt (pL false false 0 o m s 0) = cH pc' rg' fl' tk' rt (pL ov off 0 o m' s 0) ∧ l = lr ∧ [] = qx ∧ [] = qo ∧ [] = es)) := by
  classical
  obtain ⟨A, c, rfl⟩ := he
  obtain ⟨A', c', rfl, hes⟩ := h.e
  have hone : ∀ v ∈ sL vr vx vo false 0 o m s false 0 (.slice A 0 c), v.oneCell' = true := by
    intro v hv
    simp only [sL, List.mem_cons, List.not_mem_nil, or_false] at hv
    rcases hv with rfl | rfl | rfl | rfl | rfl | rfl | rfl | rfl | rfl | rfl | rfl
    · exact hr.one
    · exact hx.one
    · exact ho.one
    all_goals rfl
  have hone' : ∀ v ∈ sL ram rx ox ov 0 o m' s off 0 (.slice A' es.length c'), v.oneCell' = true := by
    intro v hv
    simp only [sL, List.mem_cons, List.not_mem_nil, or_false] at hv
    rcases hv with rfl | rfl | rfl | rfl | rfl | rfl | rfl | rfl | rfl | rfl | rfl
    · exact h.r.one
    · exact h.x.one
    · exact h.q.one
    all_goals rfl
  refine ⟨decide (cH pc rg fl tk rt (pL false false 0 o m s 0) = cH pc' rg' fl' tk' rt (pL ov off 0 o m' s 0)), decide (l = lr), decide ([] = qx), decide ([] = qo), decide (([] : List (List Value)) = es), ⟨by simpa using kr.len, by simpa [kF] using kf.len, by simpa using h.kr.len, by simpa [kF] using h.kf.len, kr, h.kr, kf, h.kf, hone, hone', by simp, fun w' d _ => ?_, fun w' d _ => ?_, fun w' d _ => ?_, fun w' d _ => ?_⟩, by simp [and_assoc]⟩
  · have := eqb_calls (hr.below d) (h.r.below d) hl; exact this
  · have := eqb_calls (hx.below d) (h.x.below d) (by decide); exact this
  · have := eqb_calls (ho.below d) (h.q.below d) (by decide); exact this
  · refine (sameev_calls w' A A' c c' [] es (ES.nil _ _) (hes.below d) (by decide) (Nat.le_trans h.n (by decide))).mono ?_
    rintro e w2 ⟨x, rfl, hx', d2⟩
    exact ⟨by rw [Bool.eq_iff_iff.2 (hx'.trans (decide_eq_true_iff).symm)], d2.below⟩
def JS (U : World) (G N : Nat) (l : List Int) (pc : Int) (rg fl : List Value) (tk rt o m : Int) (s : Bool) (x : Int) (w : World) : Prop :=
  ∃ pc' rg' fl' tk' ram rx ox ov m' off' ev lr qx qo es, JB U G N w pc' rg' fl' tk' rt ram rx ox ov o m' s off' ev lr qx qo es ∧ ((cH pc rg fl tk rt (pL false false 0 o m s 0) = cH pc' rg' fl' tk' rt (pL ov off' 0 o m' s 0) ∧ l = lr ∧ [] = qx ∧ [] = qo ∧ [] = es) ↔ x.tmod 12 = 0)
/-- Events put behind a row of the call's own: one operation. -/
theorem evapp_op {w : World} {o : Oper} {ac : Act} {K : Act → World → Prop} {Q : Exit → Act → World → Prop} (s x : Operand)
    (ho : o.op = .call { callee := .builtin .append, args := #[s, x], argTypes := #[33, 33] })
    (base : Nat) (v : Value) (es : List (List Value)) (hs : ac.eval s = v) (hown : EO base w v es)
    (X : Option Addr) (c : Nat) (bs : List (List Value)) (hx : ac.eval x = .slice X bs.length c) (hX : ES w X bs) (hXn : X = none → bs = [] ∧ c = 0) (hnm : es.length + bs.length ≤ 1000) (hbase : base ≤ w.heap.size)
    (h : ∀ v' w', EO base w' v' (es ++ bs) → w.grownBy w' v.ownBlock → K (ac.put o.dst v') w') :
    o.wp Try.prog ac w K Q := by
  obtain ⟨i0, hi, hz0, hz1, hz2⟩ := info_parts infoE
  have hfb : ∀ e ∈ bs, Fits kE e := fun e he => by
    obtain ⟨i, hi⟩ := List.getElem?_of_mem he
    exact (hX i e hi).1
  have hf : ∀ e ∈ es ++ bs, Fits kE e := fun e he => by
    rcases List.mem_append.1 he with he | he
    · exact hown.f e he
    · exact hfb e he
  cases X with
  | none =>
    obtain ⟨rfl, rfl⟩ := hXn rfl
    have hrun := run_append_owned_none (P := Try.prog) (w := w) base 33 o.type 46 i0 45 Try.underlying33 hi v _ _ hown.o
    unfold Oper.wp
    simp [execOp, ho, resolve, invoke, builtin, hs, hx, hrun, Result.andThen]
    exact h v w ⟨by simpa using hown.o, hf⟩ ⟨rfl, rfl, rfl, Nat.le_refl _, fun _ _ _ => rfl⟩
  | some ad =>
    have hnews : ∀ j u, bs.flatten[j]? = some u → w.cell? (ad.add j) = some u := by
      intro j u hu
      have hj := (List.getElem?_eq_some_iff.1 hu).1
      rw [flat_len bs hfb] at hj
      obtain ⟨e, he⟩ : ∃ e, bs[j / 45]? = some e := ⟨_, List.getElem?_eq_getElem (show j / 45 < bs.length by omega)⟩
      obtain ⟨f, ad', had, hc⟩ := hX _ e he
      cases had
      obtain ⟨y, hy⟩ : ∃ y, e[j % 45]? = some y := ⟨_, List.getElem?_eq_getElem (by rw [f.len45]; omega)⟩
      have h1 := hc _ y hy
      have h2 := flat_get bs hfb _ e he _ y hy
      have e1 : j / 45 * 45 + j % 45 = j := by omega
      rw [e1] at h1 h2
      rw [h2] at hu
      cases hu
      exact h1
    obtain ⟨v', w', hr, h2, h3, h4, h5⟩ := run_append_own_at (P := Try.prog) w base 33 o.type 46 i0 (.agg zE.toArray) 45 192 Try.underlying33 hi hz0 hz1 hz2 rfl (by decide) v _ _ hown.o ad bs.length c bs.flatten (flat_len bs hfb) hnews (flat_one hfb) (by simp only [maxLen]; omega) (by omega) hbase
    unfold Oper.wp execOp
    simp only [ho, resolve, invoke, builtin, Sem.run_bind, Sem.run_pure, Result.andThen_ok, List.map_toArray, List.map_cons, List.map_nil, hs, hx, hr]
    exact h v' w' ⟨by rw [List.flatten_append, List.length_append]; exact h2, hf⟩ h3
theorem evapp_any {w : World} {ops : Array Oper} {rest : List Oper} {o : Oper} {ac : Act} {Q : Exit → Act → World → Prop} (hgd : o.guard = none) (s x : Operand)
    (ho : o.op = .call { callee := .builtin .append, args := #[s, x], argTypes := #[33, 33] })
    (base : Nat) (v : Value) (es : List (List Value)) (hs : ac.eval s = v) (hown : EO base w v es)
    (X : Option Addr) (c : Nat) (bs : List (List Value)) (hx : ac.eval x = .slice X bs.length c) (hX : ES w X bs) (hXn : X = none → bs = [] ∧ c = 0) (hnm : es.length + bs.length ≤ 1000) (hbase : base ≤ w.heap.size)
    (h : ∀ v' w', EO base w' v' (es ++ bs) → w.grownBy w' v.ownBlock → Below base w w' → wpList Try.prog ops Q rest (ac.put o.dst v') w') :
    wpList Try.prog ops Q (o :: rest) ac w :=
  wpList_plain hgd fun K hK => evapp_op s x ho base v es hs hown X c bs hx hX hXn hnm hbase fun v' w' h1 h2 => hK _ _ (h v' w' h1 h2 (Below.grown (Below.refl _ _) h2 hbase fun k hk => (hown.o.lt k hk).1))

/-- Ahead of the switch. -/
structure JI (U : World) (G N : Nat) (l : List Int) (w : World) (pc : Int) (rg fl : List Value) (tk rt : Int) (ram rx ox : Value) (o m : Int) (s : Bool) (ev : Value) : Prop where
  h : w.heap[G]? = some (.cells (cH pc rg fl tk rt (sL ram rx ox false 0 o m s false 0 ev)).toArray 43 (0, 0))
  g : U.heap.size ≤ G
  kr : Fits (List.replicate 32 (some .u32)) rg
  kf : Fits kF fl
  r : w.ownsRow U.heap.size 5 1 ram N (l.map (Value.int .u8))
  x : w.ownsRow U.heap.size 5 1 rx 0 []
  q : w.ownsRow U.heap.size 5 1 ox 0 []
  e : EO U.heap.size w ev []
  n : N ≤ 65536
  b : Below U.heap.size U w
  da : ∀ i, rx.ownBlock = some i → ram.ownBlock ≠ some i
  db : ∀ i, ox.ownBlock = some i → ram.ownBlock ≠ some i
section
variable {U : World} {G N : Nat} {l : List Int} {w : World} {pc : Int} {rg fl : List Value} {tk rt : Int} {ram rx ox : Value} {o m : Int} {s : Bool} {ev : Value}
theorem JI.nul (h : JI U G N l w pc rg fl tk rt ram rx ox o m s ev) (w' : World) : RB w' rx [] ∧ RB w' ox [] ∧ ∃ A c, ev = .slice A 0 c ∧ ES w' A [] := by
  obtain ⟨A, c, rfl⟩ := owns_form h.x
  obtain ⟨A', c', rfl⟩ := owns_form h.q
  obtain ⟨A2, c2, rfl, _⟩ := h.e.es
  exact ⟨RB.nil _ _ _, RB.nil _ _ _, A2, c2, rfl, ES.nil _ _⟩
theorem JI.plain (h : JI U G N l w pc rg fl tk rt ram rx ox o m s ev) {w8 : World} {a' : Array Value} {pc' tk' m' : Int} {rg' fl' : List Value} {ov off' : Bool} {x : Int} (hf : w8.heap[G]? = some (.cells a' 43 (0, 0))) (ho : Only G w w8)
    (ha : a' = (cH pc' rg' fl' tk' rt (sL ram rx ox ov 0 o m' s off' 0 ev)).toArray) (kr' : Fits (List.replicate 32 (some .u32)) rg') (kf' : Fits kF fl')
    (hx : cH pc rg fl tk rt (pL false false 0 o m s 0) = cH pc' rg' fl' tk' rt (pL ov off' 0 o m' s 0) ↔ x.tmod 12 = 0) : JS U G N l pc rg fl tk rt o m s x w8 := by
  subst ha
  obtain ⟨n1, n2, A, c, n3, n4⟩ := h.nul w8
  exact ⟨pc', rg', fl', tk', ram, rx, ox, ov, m', off', ev, l, [], [], [], ⟨hf, kr', kf', RB.of_own (st_own.2 _ _ _ _ h.r h.h ho) h.n, n1, n2, ⟨A, c, n3, n4⟩, by decide, ho.below h.g h.b⟩, by simpa using hx⟩
theorem JI.none (h : JI U G N l w pc rg fl tk rt ram rx ox o m s ev) {x : Int} (hx : x.tmod 12 = 0) : JS U G N l pc rg fl tk rt o m s x w := by
  obtain ⟨n1, n2, A, c, n3, n4⟩ := h.nul w
  exact ⟨pc, rg, fl, tk, ram, rx, ox, false, m, false, ev, l, [], [], [], ⟨h.h, h.kr, h.kf, RB.of_own h.r h.n, n1, n2, ⟨A, c, n3, n4⟩, by decide, h.b⟩, by simpa using hx⟩
theorem JI.below (h : JI U G N l w pc rg fl tk rt ram rx ox o m s ev) {w' : World} (k : Below w.heap.size w w') : JI U G N l w' pc rg fl tk rt ram rx ox o m s ev :=
  ⟨blk_below h.h k, h.g, h.kr, h.kf, owns_below h.r k, owns_below h.x k, owns_below h.q k, h.e.below k, h.n, below_on h.b k, h.da, h.db⟩
theorem keepG {w' : World} {base e t sz n : Nat} {v : Value} {xs : List Value} {cs : Array Value} {z : Nat × Nat} (ho : w.ownsRow base e sz v n xs) (hG : w.heap[G]? = some (.cells cs t z)) (hn : e ≠ t) (hg : w.grownBy w' v.ownBlock) : w'.heap[G]? = some (.cells cs t z) :=
  (hg.block G (blk_lt hG) (fun e => owns_ne ho hG hn e.symm)).trans hG
theorem grownU {w' : World} {base e sz n : Nat} {v : Value} {xs : List Value} (ho : w.ownsRow base e sz v n xs) (hb : base ≤ w.heap.size) (hg : w.grownBy w' v.ownBlock) : Below base w w' :=
  Below.grown (Below.refl _ _) hg hb fun k hk => (ho.lt k hk).1
/-- A byte put behind one of the three rows. -/
theorem JI.app (h : JI U G N l w pc rg fl tk rt ram rx ox o m s ev) {wa w8 : World} {v ram' rx' ox' : Value} {lr qx qo : List Int} {x : Int} {j : Nat} (hb : Below U.heap.size w wa) (hG : wa.heap[G]? = some (.cells (cH pc rg fl tk rt (sL ram rx ox false 0 o m s false 0 ev)).toArray 43 (0, 0)))
    (hf : w8.heap[G]? = some (.cells ((cH pc rg fl tk rt (sL ram rx ox false 0 o m s false 0 ev)).toArray.setIfInBounds (44 + j) v) 43 (0, 0))) (ho : Only G wa w8) (h1 : rg.length = 32) (h2 : fl.length = 9)
    (hl : (sL ram rx ox false 0 o m s false 0 ev).set j v = sL ram' rx' ox' false 0 o m s false 0 ev) (r : RB w8 ram' lr) (r2 : RB w8 rx' qx) (r3 : RB w8 ox' qo) (hne : ¬ (l = lr ∧ [] = qx ∧ [] = qo)) (hx : x.tmod 12 ≠ 0) : JS U G N l pc rg fl tk rt o m s x w8 := by
  rw [cH_setL h1 h2, hl] at hf
  obtain ⟨n1, n2, A, c, n3, n4⟩ := h.nul w8
  exact ⟨pc, rg, fl, tk, ram', rx', ox', false, m, false, ev, lr, qx, qo, [], ⟨hf, h.kr, h.kf, r, r2, r3, ⟨A, c, n3, n4⟩, by decide, ho.below h.g (h.b.trans hb)⟩, ⟨fun k => absurd ⟨k.2.1, k.2.2.1, k.2.2.2.1⟩ hne, fun k => absurd k hx⟩⟩
end
theorem Fits.set {k : IntKind} {v : Int} : ∀ {ks : List (Option IntKind)} {vs : List Value} (i : Nat), Fits ks vs → ks[i]? = some (some k) → Fits ks (vs.set i (.int k v))
  | _, _, i, .nil, h => by cases h
  | _, _, 0, .cons a b, h => by
    obtain rfl := Option.some.inj h
    exact .cons ⟨_, rfl⟩ b
  | _, _, i + 1, .cons a b, h => .cons a (b.set i h)
theorem cH_setF {pc : Int} {rg fl : List Value} {tk rt : Int} {L : List Value} (h1 : rg.length = 32) (j : Nat) (hj : j < fl.length) (v : Value) : (cH pc rg fl tk rt L).toArray.setIfInBounds (33 + j) v = (cH pc rg (fl.set j v) tk rt L).toArray := by
  rw [List.setIfInBounds_toArray, cH, show 33 + j = (32 + j) + 1 by omega, List.set_cons_succ, set_after _ _ _ _ _ h1, List.set_append_left _ _ hj]
  rfl
theorem set_ne {l : List Value} {i : Nat} {k : IntKind} {a b : Int} (h : l[i]? = some (.int k a)) (e : l = l.set i (.int k b)) : a = b := by
  have hi := (List.getElem?_eq_some_iff.1 h).1
  have := congrArg (fun l => l[i]?) e
  simp only [h, List.getElem?_set_self hi] at this
  injection this with this
  injection this
theorem fE_z : Fits kE zE := .cons ⟨_, rfl⟩ (.cons ⟨_, rfl⟩ (fits_ints .u32 (List.replicate 43 0)))
theorem lit_eo {w : World} {base : Nat} (hb : base ≤ w.heap.size) : EO base (w.alloc (.cells zE.toArray 46)) (.slice (some ⟨w.heap.size, 0, none⟩) 1 1) [zE] := by
  have := World.ownsRow_lit (base := base) (e := 46) (size := 45) w zE.toArray 1 hb (by decide) rfl
  exact ⟨by simpa using this, fun e he => by obtain rfl := List.mem_singleton.1 he; exact fE_z⟩
theorem lit_es (w : World) : ES (w.alloc (.cells zE.toArray 46)) (some ⟨w.heap.size, 0, none⟩) [zE] := by
  obtain ⟨A, c, h, _, _, hes⟩ := (lit_eo (Nat.le_refl w.heap.size)).es
  cases h
  exact hes
section
variable {U : World} {G N : Nat} {l : List Int} {w : World} {pc : Int} {rg fl : List Value} {tk rt : Int} {ram rx ox : Value} {o m : Int} {s : Bool} {ev : Value}
theorem JI.evs (h : JI U G N l w pc rg fl tk rt ram rx ox o m s ev) {wa w8 : World} {v : Value} {x : Int} (he : EO U.heap.size wa v [zE]) (hg : w.grownBy wa ev.ownBlock)
    (hf : w8.heap[G]? = some (.cells ((cH pc rg fl tk rt (sL ram rx ox false 0 o m s false 0 ev)).toArray.setIfInBounds 54 v) 43 (0, 0))) (ho : Only G wa w8) (hG : wa.heap[G]? = some (.cells (cH pc rg fl tk rt (sL ram rx ox false 0 o m s false 0 ev)).toArray 43 (0, 0))) (h1 : rg.length = 32) (h2 : fl.length = 9) (hx : x.tmod 12 ≠ 0) : JS U G N l pc rg fl tk rt o m s x w8 := by
  rw [show (54 : Nat) = 44 + 10 from rfl, cH_setL h1 h2, show (sL ram rx ox false 0 o m s false 0 ev).set 10 v = sL ram rx ox false 0 o m s false 0 v from rfl] at hf
  obtain ⟨n1, n2, _⟩ := h.nul w8
  obtain ⟨A, c, rfl, _, _, hes⟩ := (st_eo.2 _ _ _ _ he hG ho).es
  have hr : wa.ownsRow U.heap.size 5 1 ram N (l.map (Value.int .u8)) := owns_move h.r fun i hi => hg.block i (h.r.lt i hi).2 (fun e => by
    obtain ⟨cs, z, hb⟩ : ∃ cs z, w.heap[i]? = some (.cells cs 5 z) := by
      rcases h.r.2 with ⟨hn, _⟩ | ⟨g, cap, cur, hv, _, hh, _⟩
      · rw [hn] at hi; cases hi
      · rw [hv] at hi
        obtain rfl : g = i := by simpa [Value.ownBlock] using hi
        exact ⟨_, _, hh⟩
    exact owns_ne h.e.o hb (by decide) e.symm)
  exact ⟨pc, rg, fl, tk, ram, rx, ox, false, m, false, _, l, [], [], [zE], ⟨hf, h.kr, h.kf, RB.of_own (st_own.2 _ _ _ _ hr hG ho) h.n, n1, n2, ⟨A, c, rfl, hes⟩, by decide, ho.below h.g (h.b.trans (grownU h.e.o h.b.size hg))⟩, ⟨fun k => absurd k.2.2.2.2 (by simp), fun k => absurd k hx⟩⟩
end
theorem lit_eo0 {w : World} {base : Nat} (hb : base ≤ w.heap.size) : EO base (w.alloc (.cells #[] 46)) (.slice (some ⟨w.heap.size, 0, none⟩) 0 0) [] := by
  have := World.ownsRow_lit (base := base) (e := 46) (size := 45) w #[] 0 hb (by decide) rfl
  exact ⟨by simpa using this, fun e he => by cases he⟩
/-- What the last line's operations leave. -/
def postF (b p N : Nat) (l : List Int) (pc : Int) (rg fl : List Value) (tk rt o m : Int) (s : Bool) (cb : Array Value) (x : Int) (Ae : Option Addr) (cape : Nat) (evs : List (List Value)) (Ao : Option Addr) (no co : Nat) (i : Nat) (v : Value) (w : World) : Prop :=
  match i with
  | 0 => v = .pointer (some ⟨p, 0, none⟩)
  | 1 => ∃ vr A2 c2 A3 c3 A4 c4, v = .agg (cH pc rg fl tk rt (sL vr (.slice A2 0 c2) (.slice A3 0 c3) false 0 o m s false 0 (.slice A4 0 c4))).toArray ∧ w.ownsRow b 5 1 vr N (l.map (Value.int .u8))
  | 2 => v = .agg cb
  | 3 => v = .bool (x.tmod 12 == 0)
  | 4 => v = .int .u8 x
  | 5 => v = .int .u8 (x.tmod 12)
  | 6 => v = .bool (x.tmod 12 == 0)
  | 7 => v = .bool true
  | 8 => v = .bool true
  | 9 => v = .slice Ae evs.length cape
  | 10 => ∃ g, v = .slice (some ⟨g, 0, none⟩) 0 0 ∧ b ≤ g ∧ w.heap[g]? = some (.cells #[] 46 (0, 0))
  | 11 => v = .slice Ae evs.length cape
  | 12 => EO b w v evs
  | 13 => v = .bool true
  | 14 => v = .bool true
  | 15 => v = .bool true
  | 16 => v = .slice Ae evs.length cape
  | 17 => v = .slice Ao no co
  | 18 => v = .bool false
  | 19 => v = .bool true
  | 20 => v = .bool true
  | 21 => v = .bool true
  | 22 => v = .bool true
  | 23 => v = .bool true
  | _ => True
def killsF (i j : Nat) : Bool := i == 12 && j == 10
def RF (i : Nat) (w w' : World) : Prop := Below w.heap.size w w' ∨ (i = 12 ∧ ∃ g, w.heap[g]? = some (.cells #[] 46 (0, 0)) ∧ w.grownBy w' (some g))
theorem rF_hR {ops : Array Oper} {b p N : Nat} {l : List Int} {pc : Int} {rg fl : List Value} {tk rt o m : Int} {s : Bool} {cb : Array Value} {x : Int} {Ae : Option Addr} {cape : Nat} {evs : List (List Value)} {Ao : Option Addr} {no co : Nat} (d0 : dead ops killsF 12 10 = true) :
    ∀ (i j : Nat) (v : Value) (w w' : World), i ≠ j → dead ops killsF i j = false → postF b p N l pc rg fl tk rt o m s cb x Ae cape evs Ao no co j v w → RF i w w' → postF b p N l pc rg fl tk rt o m s cb x Ae cape evs Ao no co j v w' := by
  intro i j v w w' hne hd hp hr
  rcases hr with k | ⟨rfl, g, hg, hgr⟩
  · unfold postF at hp ⊢
    split at hp
    all_goals first
      | exact hp
      | (obtain ⟨vr, A2, c2, A3, c3, A4, c4, h1, h2⟩ := hp; exact ⟨vr, A2, c2, A3, c3, A4, c4, h1, owns_below h2 k⟩)
      | (obtain ⟨g, h1, h2, h3⟩ := hp; exact ⟨g, h1, h2, blk_below h3 k⟩)
      | exact EO.below hp k
  · unfold postF at hp ⊢
    split at hp
    all_goals first
      | exact hp
      | (exfalso; exact hne rfl)
      | (exfalso; rw [d0] at hd; cases hd; done)
      | (obtain ⟨vr, A2, c2, A3, c3, A4, c4, h1, h2⟩ := hp; exact ⟨vr, A2, c2, A3, c3, A4, c4, h1, owns_move h2 fun i hi => hgr.block i (h2.lt i hi).2 (fun e => by cases e; exact owns_ne h2 hg (by decide) hi)⟩)
end Go.Proofs.Ytfnbpmkbjbibkaa

namespace Go.Proofs.Ytfnbpmkbjbibkaa
open Go Go.RowKit Go.Deep Go.Great Go.Proofs.YtfnbpmkbjbibkaaW.PrintWords Go.Proofs.Ytfnbpmkbjbibkaa.QCpuSame
set_option linter.unusedVariables false
set_option linter.unusedSimpArgs false

section
variable {W : World} {n : Int} {A : Option Addr} {len cap : Nat} {f : Nat → Nat → Int} {pp : Nat → Option Addr} {nn c : Nat → Nat} {bb : Nat → List Int} {Ai : Option Addr} {leni capi : Nat} {fi : Nat → Nat → Int} {pc : Int} {rs ks : List Int} {cy cn o m tk rt : Int}
set_option maxRecDepth 100000 in
set_option maxHeartbeats 8000000 in
theorem same_walk (h : StartOk W n A len cap f pp nn c bb Ai leni capi fi pc rs ks cy cn o m tk rt) (s : Bool) (Ae : Option Addr) (lene cape : Nat) (evs : List (List Value)) (he : ES W Ae evs) (hel : evs.length = lene) (hec : lene ≤ cape) (hen : Ae = none → lene = 0 ∧ cape = 0) (x : Int) (x0 : 0 ≤ x) (x1 : x < 256) :
    Calls Try.prog 3 #[.agg (stC n (.slice A len cap) (.slice Ai leni capi) pc (rs.map (Value.int .u32)) (fl9 ks cy cn) o m s tk rt).toArray, .slice Ae lene cape, .int .u8 x] W fun e w' => e = .returned (.bool true) ∧ Below W.heap.size W w' := by
  have H := Aside0.mk h
  have HE := Aside0.mk (And.intro he (And.intro hel (And.intro hec hen)))
  have HX01 := Aside0.mk (And.intro x0 x1)
  have HL : Aside0 ((rs.map (Value.int .u32)).length = 32 ∧ (fl9 ks cy cn).length = 9) := ⟨by simp [h.rl], by simp [fl9, h.kl]⟩
  clear h he hel hec hen x0 x1
  obtain ⟨B0, hB⟩ : ∃ B, W.heap.size = B := ⟨_, rfl⟩
  have HB0 := Aside0.mk hB
  go_enter Try.func3, Try.ntmps3
  go_upto_region 1 with fail
  obtain ⟨st, hst⟩ : ∃ st, stC n (.slice A len cap) (.slice Ai leni capi) pc (rs.map (Value.int .u32)) (fl9 ks cy cn) o m s tk rt = st := ⟨_, rfl⟩
  have HX := Aside0.mk (by have := blk_new W (.cells (stC n (.slice A len cap) (.slice Ai leni capi) pc (rs.map (Value.int .u32)) (fl9 ks cy cn) o m s tk rt).toArray 32); rw [hB] at this; exact this)
  have BW := Aside0.mk (below_alloc (Below.refl W.heap.size W) (.cells (stC n (.slice A len cap) (.slice Ai leni capi) pc (rs.map (Value.int .u32)) (fl9 ks cy cn) o m s tk rt).toArray 32))
  clear hB
  generalize W.alloc (.cells (stC n (.slice A len cap) (.slice Ai leni capi) pc (rs.map (Value.int .u32)) (fl9 ks cy cn) o m s tk rt).toArray 32) = w1 at HX BW ⊢
  have HST : Aside0 (stC n (.slice A len cap) (.slice Ai leni capi) pc (rs.map (Value.int .u32)) (fl9 ks cy cn) o m s tk rt = st ∧ (Try.prog.info? 32).map (·.size) = some st.toArray.size) := ⟨hst, by rw [← hst, List.size_toArray, stC_len HL.out.1 HL.out.2]; exact stt_size⟩
  rw [hst] at HX ⊢
  clear hst
  have HLI := Aside0.mk (light_calls (H.out.below BW.out) s)
  rw [HST.out.1] at HLI
  go_wp2_with (first
    | ((with_reducible refine gate_dst (N := 11) rfl ?_); refine wpList_load_arr rfl 32 (.tmp 3) rfl B0 rfl st.toArray HX.out _ Try.underlying32 rfl HST.out.2 ?_))
  refine HLI.out.mono ?_
  rintro e w2 ⟨b, rfl, hb, d⟩
  have HBB := Aside0.mk hb
  have B2 := Aside0.mk (below_on BW.out d)
  have X2 := Aside0.mk (blk_below HX.out d)
  clear hb d HX BW HLI
  cases b with
  | false =>
    go_wp2_with fail
    refine (cpu_awake_calls _).mono ?_
    rintro e w3 ⟨rfl, d⟩
    have B3 := Aside0.mk (below_on B2.out d)
    clear d B2
    go_wp2_with fail
    go_ret
    exact ⟨rfl, B3.out⟩
  | true =>
    by_cases hle : lene ≤ 50
    · have hle' : decide ((lene : Int) > 50) = false := by simp; omega
      obtain ⟨g1, g2, g3, r, h12, hx⟩ := HBB.out rfl
      have hs : sizeOk n = true := by
        cases hs : sizeOk n with
        | true => rfl
        | false => rw [newAns, hs, if_neg (by decide)] at hx; cases hx
      unfold sizeOk at hs
      simp only [Bool.and_eq_true, decide_eq_true_eq, beq_iff_eq] at hs
      obtain ⟨N, rfl⟩ : ∃ N : Nat, n = N := ⟨n.toNat, by omega⟩
      have HN : Aside0 (64 ≤ N ∧ N ≤ 1024) := ⟨by omega⟩
      have HBG := Aside0.mk (fun w' (hb : Below W.heap.size W w') => (by
        have := begin_ok w' (H.out.below hb) s g2 h12 hx
        rw [HST.out.1] at this
        exact this))
      clear hs hx h12 g1 g2 g3 HBB
      go_upto_region 3 with fail
      go_wp2_with (first
        | ((with_reducible refine gate_dst (N := 20) rfl ?_); refine wpList_load_arr rfl 32 (.tmp 3) rfl B0 rfl st.toArray X2.out _ Try.underlying32 rfl HST.out.2 ?_))
      refine (HBG.out w2 B2.out).mono ?_
      rintro e w3 ⟨p, B, R, C, T, BB, BW, BG, X, ws, gs, rfl, mc, d⟩
      have M3 := Aside0.mk (mc.base B2.out)
      have B3 := Aside0.mk (below_on B2.out d)
      have X3 := Aside0.mk (blk_below X2.out d)
      clear mc d B2 X2
      go_upto_region 4 with fail
      go_wp2_with (first
        | ((with_reducible refine gate_dst (N := 22) rfl ?_); refine wpList_load_arr rfl 32 (.tmp 3) rfl B0 rfl st.toArray X3.out _ Try.underlying32 rfl HST.out.2 ?_))
      refine (HBG.out w3 B3.out).mono ?_
      rintro e w4 ⟨p', B', R', C', T', BB', BW', BG', X', ws', gs', rfl, mc, d⟩
      have M4 := Aside0.mk (M3.out.below d)
      have N4 := Aside0.mk (mc.base B3.out)
      have B4 := Aside0.mk (below_on B3.out d)
      clear mc d B3 X3 M3 HBG
      go_wp2_with fail
      refine (cstate_eva N4.out (EO.nil W.heap.size w4) (by decide) (by have := HN.out; omega) (by decide)).mono ?_
      rintro e w5 ⟨vr, vx, vo, ve, rfl, o1, o2, o3, eo, d, da, db⟩
      have M5 := Aside0.mk (M4.out.below d)
      have B5 := Aside0.mk (below_on B4.out d)
      have U5 := Aside0.mk d
      have O5 := Aside0.mk (And.intro o1 (And.intro o2 (And.intro o3 (And.intro eo (And.intro da db)))))
      clear o1 o2 o3 eo d N4 da db
      obtain ⟨A0, c0, rfl⟩ := owns_form O5.out.1
      obtain ⟨A2, c2, rfl⟩ := owns_form O5.out.2.1
      obtain ⟨A3, c3, rfl⟩ := owns_form O5.out.2.2.1
      obtain ⟨A4, c4, rfl, _⟩ := O5.out.2.2.2.1.es
      generalize hl0 : layL (List.replicate N 0) (prts len f nn bb) = l at M5 O5 M4
      clear hl0
      have HLN : Aside0 (l.length = N) := ⟨by have := O5.out.1.1; simpa using this⟩
      have HFLO : Aside0 (∀ v ∈ fl9 ks cy cn, v.oneCell' = true) := ⟨by intro v hv; simp only [fl9, List.mem_append, List.mem_map, List.mem_cons, List.not_mem_nil, or_false] at hv; rcases hv with ⟨x, _, rfl⟩ | rfl | rfl <;> rfl⟩
      have HRO : Aside0 (∀ v ∈ rs.map (Value.int .u32), v.oneCell' = true) := ⟨by intro v hv; obtain ⟨x, _, rfl⟩ := List.mem_map.1 hv; rfl⟩
      go_upto_block 0 with (first
        | (refine wpList_alloc_z rfl 43 rfl zS zS_zero ?_; intro w6 hb3 hB3; have HB6 := Aside0.mk hb3; have BB6 := Aside0.mk hB3; clear hb3 hB3)
        | ((with_reducible refine gate_store (t := 43) (p := 9) (v := .tmp 25) rfl ?_); refine wpList_store_arr rfl 43 (.tmp 9) (.tmp 25) rfl w5.heap.size rfl (cH pc (rs.map (Value.int .u32)) (fl9 ks cy cn) tk rt (sL (.slice A0 N c0) (.slice A2 0 c2) (.slice A3 0 c3) false 0 o m s false 0 (.slice A4 0 c4))).toArray rfl zS 43 HB6.out (by rw [zS_size, cH_size HL.out.1 HL.out.2]; rfl) (by rw [cH_size HL.out.1 HL.out.2]; exact st_size) (cH_one HRO.out HFLO.out (by simp [sL, Value.oneCell'])) ?_; intro w7 hf ho; have HG7 := Aside0.mk hf; have HO7 := Aside0.mk ho; clear hf ho))
      obtain ⟨r9, h9⟩ : ∃ r9, (rs.map (Value.int .u32))[9]? = some (.int .u32 r9) := by
        obtain ⟨r9, h9⟩ : ∃ r9, rs[9]? = some r9 := ⟨_, List.getElem?_eq_getElem (by rw [H.out.rl]; decide)⟩
        exact ⟨r9, by rw [List.getElem?_map, h9]; rfl⟩
      obtain ⟨k3, h3⟩ : ∃ k3, (fl9 ks cy cn)[3]? = some (.int .u32 k3) := by
        obtain ⟨k3, h3⟩ : ∃ k3, ks[3]? = some k3 := ⟨_, List.getElem?_eq_getElem (by rw [H.out.kl]; decide)⟩
        exact ⟨k3, by rw [fl9, List.getElem?_append_left (by rw [List.length_map, H.out.kl]; decide), List.getElem?_map, h3]; rfl⟩
      have HKR : Aside0 (Fits (List.replicate 32 (some .u32)) (rs.map (Value.int .u32))) := ⟨by have := fits_ints .u32 rs; rw [H.out.rl] at this; exact this⟩
      have HKF : Aside0 (Fits kF (fl9 ks cy cn)) := ⟨by have h7 := fits_ints .u32 ks; rw [H.out.kl] at h7; exact h7.append (.cons ⟨_, rfl⟩ (.cons ⟨_, rfl⟩ .nil))⟩
      have HRL := HL.out.1
      have HFL := HL.out.2
      obtain ⟨rg, hrg⟩ : ∃ rg, rs.map (Value.int .u32) = rg := ⟨_, rfl⟩
      obtain ⟨fl, hfl⟩ : ∃ fl, fl9 ks cy cn = fl := ⟨_, rfl⟩
      rw [hrg] at h9 HKR HRL HG7 M5 M4 HRO ⊢
      rw [hfl] at h3 HKF HFL HG7 M5 M4 HFLO ⊢
      obtain ⟨G, hGe⟩ : ∃ G, w5.heap.size = G := ⟨_, rfl⟩
      rw [hGe] at HG7 HO7 HB6 ⊢
      have HI7 : Aside0 (JI w4 G N l w7 pc rg fl tk rt (.slice A0 N c0) (.slice A2 0 c2) (.slice A3 0 c3) o m s (.slice A4 0 c4)) := ⟨by
        have hS := U5.out.size
        have B6 := BB6.out
        exact ⟨HG7.out, by omega, HKR.out, HKF.out, st_own.2 _ _ _ _ (owns_below O5.out.1 B6) HB6.out HO7.out, st_own.2 _ _ _ _ (owns_below O5.out.2.1 B6) HB6.out HO7.out, st_own.2 _ _ _ _ (owns_below O5.out.2.2.1 B6) HB6.out HO7.out, st_eo.2 _ _ _ _ (O5.out.2.2.2.1.below B6) HB6.out HO7.out, by have := HN.out; omega, HO7.out.below (by omega) (below_on U5.out B6), O5.out.2.2.2.2.1, O5.out.2.2.2.2.2⟩⟩
      have HGE := Aside0.mk hGe
      have H9 := Aside0.mk h9
      have H3 := Aside0.mk h3
      have HRF : Aside0 (rg.length = 32 ∧ fl.length = 9) := ⟨⟨HRL, HFL⟩⟩
      clear hrg hfl hGe h9 h3 HRL HFL HG7 HO7 HB6 BB6 O5 HFLO HRO
      go_cut [28] from 28 (fun _ w8 => Aside0 (JS w4 G N l pc rg fl tk rt o m s x w8))
      case first =>
        have cP : w7.cell? ⟨G, 0, none⟩ = some (.int .u32 pc) := at_P HI7.out.h
        have cR : w7.cell? ⟨G, 10, none⟩ = some (.int .u32 r9) := (cell_of_row w7 G 10 _ _ _ HI7.out.h).trans (by rw [List.getElem?_toArray]; exact cH_r HRF.out.1 HRF.out.2 9 _ H9.out)
        have cF : w7.cell? ⟨G, 36, none⟩ = some (.int .u32 k3) := (cell_of_row w7 G 36 _ _ _ HI7.out.h).trans (by rw [List.getElem?_toArray]; exact cH_f HRF.out.1 HRF.out.2 3 _ H3.out)
        have cT : w7.cell? ⟨G, 42, none⟩ = some (.int .u64 tk) := (at_T HI7.out.h HRF.out.1 HRF.out.2).1
        have qc0 : w7.cell? ⟨G, 44, none⟩ = some (.slice A0 N c0) := at_L HI7.out.h HRF.out.1 HRF.out.2 0 rfl
        have qc1 : w7.cell? ⟨G, 45, none⟩ = some (.slice A2 0 c2) := at_L HI7.out.h HRF.out.1 HRF.out.2 1 rfl
        have qc2 : w7.cell? ⟨G, 46, none⟩ = some (.slice A3 0 c3) := at_L HI7.out.h HRF.out.1 HRF.out.2 2 rfl
        have qc3 : w7.cell? ⟨G, 47, none⟩ = some (.bool false) := at_L HI7.out.h HRF.out.1 HRF.out.2 3 rfl
        have qc6 : w7.cell? ⟨G, 50, none⟩ = some (.int .u64 m) := at_L HI7.out.h HRF.out.1 HRF.out.2 6 rfl
        have qc8 : w7.cell? ⟨G, 52, none⟩ = some (.bool false) := at_L HI7.out.h HRF.out.1 HRF.out.2 8 rfl
        have qc10 : w7.cell? ⟨G, 54, none⟩ = some (.slice A4 0 c4) := at_L HI7.out.h HRF.out.1 HRF.out.2 10 rfl
        obtain ⟨i0, hi, hz0, hz1, hz2⟩ := info_parts (show (Try.prog.info? 5).map (fun i => (i.zero, i.size, i.bytes)) = some (some (.int .u8 0), 1, 1) by kernel_rfl)
        obtain ⟨ie, hie, hze0, hze1, hze2⟩ := info_parts infoE
        have HIE := Aside0.mk (And.intro hie (And.intro hze0 (And.intro hze1 hze2)))
        have HIU := Aside0.mk (And.intro hi (And.intro hz0 (And.intro hz1 hz2)))
        clear hie hze0 hze1 hze2 hi hz0 hz1 hz2
        go_wp2_with (first
          | ((with_reducible refine gate_store (t := 24) (p := 33) (v := .tmp 32) rfl ?_); refine wpList_store_cell rfl 24 (.tmp 33) (.tmp 32) rfl G 0 (.int .u32 ((pc + 4) % 4294967296)) rfl rfl rfl _ 43 HI7.out.h (lt_sL HRF.out.1 HRF.out.2 (by decide)) (by kernel_rfl) ?_; intro w8 hf ho; have HF8 := Aside0.mk hf; have HO8 := Aside0.mk ho; clear hf ho)
          | ((with_reducible refine gate_store (t := 24) (p := 41) (v := .tmp 39) rfl ?_); refine wpList_store_cell rfl 24 (.tmp 41) (.tmp 39) rfl G 10 (.int .u32 ((r9 + 1) % 4294967296)) rfl rfl rfl _ 43 HI7.out.h (lt_sL HRF.out.1 HRF.out.2 (by decide)) (by kernel_rfl) ?_; intro w8 hf ho; have HF8 := Aside0.mk hf; have HO8 := Aside0.mk ho; clear hf ho)
          | ((with_reducible refine gate_store (t := 24) (p := 51) (v := .tmp 48) rfl ?_); refine wpList_store_cell rfl 24 (.tmp 51) (.tmp 48) rfl G 36 (.int .u32 ((k3 + 1) % 4294967296)) rfl rfl rfl _ 43 HI7.out.h (lt_sL HRF.out.1 HRF.out.2 (by decide)) (by kernel_rfl) ?_; intro w8 hf ho; have HF8 := Aside0.mk hf; have HO8 := Aside0.mk ho; clear hf ho)
          | ((with_reducible refine gate_store (t := 28) (p := 57) (v := .tmp 56) rfl ?_); refine wpList_store_cell rfl 28 (.tmp 57) (.tmp 56) rfl G 42 (.int .u64 ((tk + 1) % 18446744073709551616)) rfl rfl rfl _ 43 HI7.out.h (lt_sL HRF.out.1 HRF.out.2 (by decide)) (by kernel_rfl) ?_; intro w8 hf ho; have HF8 := Aside0.mk hf; have HO8 := Aside0.mk ho; clear hf ho)
          | ((with_reducible refine gate_store (t := 4) (p := 77) (v := .tmp 76) rfl ?_); refine wpList_store_cell rfl 4 (.tmp 77) (.tmp 76) rfl G 47 (.bool true) rfl rfl rfl _ 43 HI7.out.h (lt_sL HRF.out.1 HRF.out.2 (by decide)) (by kernel_rfl) ?_; intro w8 hf ho; have HF8 := Aside0.mk hf; have HO8 := Aside0.mk ho; clear hf ho)
          | ((with_reducible refine gate_store (t := 28) (p := 85) (v := .tmp 83) rfl ?_); refine wpList_store_cell rfl 28 (.tmp 85) (.tmp 83) rfl G 50 (.int .u64 ((m + 1) % 18446744073709551616)) rfl rfl rfl _ 43 HI7.out.h (lt_sL HRF.out.1 HRF.out.2 (by decide)) (by kernel_rfl) ?_; intro w8 hf ho; have HF8 := Aside0.mk hf; have HO8 := Aside0.mk ho; clear hf ho)
          | ((with_reducible refine gate_store (t := 4) (p := 91) (v := .tmp 90) rfl ?_); refine wpList_store_cell rfl 4 (.tmp 91) (.tmp 90) rfl G 52 (.bool true) rfl rfl rfl _ 43 HI7.out.h (lt_sL HRF.out.1 HRF.out.2 (by decide)) (by kernel_rfl) ?_; intro w8 hf ho; have HF8 := Aside0.mk hf; have HO8 := Aside0.mk ho; clear hf ho)
          | ((with_reducible refine gate_dst (N := 63) rfl ?_); at_builtin; refine wpList_append_own _ rfl (.tmp 61) (.tmp 62) 40 rfl w4.heap.size 5 i0 (.int .u8 0) 1 1 Try.underlying40 HIU.out.1 HIU.out.2.1 HIU.out.2.2.1 HIU.out.2.2.2 rfl (by decide) (.slice A2 0 c2) 0 [] rfl (HI7.out.x.alloc _) ⟨w7.heap.size, 0, none⟩ 1 1 [.int .u8 1] rfl rfl (cell_one_new _ _ _) (by simp [Value.oneCell']) (by simp only [maxLen]; have := HI7.out.n; omega) (by have := HI7.out.n; omega) (by have := HI7.out.b.size; simp; omega) ?_; intro v1 wa hown1 hgrow1 _; have HOW := Aside0.mk hown1; have HGR := Aside0.mk hgrow1; have HJ7 := Aside0.mk (HI7.out.below (below_alloc (Below.refl _ w7) (.cells #[.int .u8 1] 5))); have HGa := Aside0.mk (keepG HJ7.out.x HJ7.out.h (by decide) HGR.out); obtain ⟨A9, c9, rfl⟩ := owns_form hown1; clear hown1 hgrow1)
          | ((with_reducible refine gate_store (t := 40) (p := 64) (v := .tmp 63) rfl ?_); refine wpList_store_cell rfl 40 (.tmp 64) (.tmp 63) rfl G 45 (.slice A9 (0 + 1) c9) rfl rfl rfl _ 43 HGa.out (lt_sL HRF.out.1 HRF.out.2 (by decide)) (by kernel_rfl) ?_; intro w8 hf ho; have HF8 := Aside0.mk hf; have HO8 := Aside0.mk ho; clear hf ho)
          | ((with_reducible refine gate_dst (N := 70) rfl ?_); at_builtin; refine wpList_append_own _ rfl (.tmp 68) (.tmp 69) 40 rfl w4.heap.size 5 i0 (.int .u8 0) 1 1 Try.underlying40 HIU.out.1 HIU.out.2.1 HIU.out.2.2.1 HIU.out.2.2.2 rfl (by decide) (.slice A3 0 c3) 0 [] rfl (HI7.out.q.alloc _) ⟨w7.heap.size, 0, none⟩ 1 1 [.int .u8 1] rfl rfl (cell_one_new _ _ _) (by simp [Value.oneCell']) (by simp only [maxLen]; have := HI7.out.n; omega) (by have := HI7.out.n; omega) (by have := HI7.out.b.size; simp; omega) ?_; intro v1 wa hown1 hgrow1 _; have HOW := Aside0.mk hown1; have HGR := Aside0.mk hgrow1; have HJ7 := Aside0.mk (HI7.out.below (below_alloc (Below.refl _ w7) (.cells #[.int .u8 1] 5))); have HGa := Aside0.mk (keepG HJ7.out.q HJ7.out.h (by decide) HGR.out); obtain ⟨A9, c9, rfl⟩ := owns_form hown1; clear hown1 hgrow1)
          | ((with_reducible refine gate_store (t := 40) (p := 71) (v := .tmp 70) rfl ?_); refine wpList_store_cell rfl 40 (.tmp 71) (.tmp 70) rfl G 46 (.slice A9 (0 + 1) c9) rfl rfl rfl _ 43 HGa.out (lt_sL HRF.out.1 HRF.out.2 (by decide)) (by kernel_rfl) ?_; intro w8 hf ho; have HF8 := Aside0.mk hf; have HO8 := Aside0.mk ho; clear hf ho)
          | ((with_reducible refine gate_dst (N := 105) rfl ?_); at_builtin; refine wpList_append_own _ rfl (.tmp 103) (.tmp 104) 40 rfl w4.heap.size 5 i0 (.int .u8 0) 1 1 Try.underlying40 HIU.out.1 HIU.out.2.1 HIU.out.2.2.1 HIU.out.2.2.2 rfl (by decide) (.slice A0 N c0) N (l.map (Value.int .u8)) rfl (HI7.out.r.alloc _) ⟨w7.heap.size, 0, none⟩ 1 1 [.int .u8 1] rfl rfl (cell_one_new _ _ _) (by simp [Value.oneCell']) (by simp only [maxLen]; have := HI7.out.n; omega) (by have := HI7.out.n; omega) (by have := HI7.out.b.size; simp; omega) ?_; intro v1 wa hown1 hgrow1 _; have HOW := Aside0.mk hown1; have HGR := Aside0.mk hgrow1; have HJ7 := Aside0.mk (HI7.out.below (below_alloc (Below.refl _ w7) (.cells #[.int .u8 1] 5))); have HGa := Aside0.mk (keepG HJ7.out.r HJ7.out.h (by decide) HGR.out); obtain ⟨A9, c9, rfl⟩ := owns_form hown1; clear hown1 hgrow1)
          | ((with_reducible refine gate_store (t := 40) (p := 106) (v := .tmp 105) rfl ?_); refine wpList_store_cell rfl 40 (.tmp 106) (.tmp 105) rfl G 44 (.slice A9 (N + 1) c9) rfl rfl rfl _ 43 HGa.out (lt_sL HRF.out.1 HRF.out.2 (by decide)) (by kernel_rfl) ?_; intro w8 hf ho; have HF8 := Aside0.mk hf; have HO8 := Aside0.mk ho; clear hf ho)
          | ((with_reducible refine gate_dst (N := 97) rfl ?_); refine wpList_buildSlice rfl 33 46 1 #[(0, .tmp 96)] rfl zE.toArray ie (.agg zE.toArray) Try.underlying33 HIE.out.1 HIE.out.2.1 (by rw [HIE.out.2.2.1]; decide) (by rw [HIE.out.2.2.1]; decide) (by rw [HIE.out.2.2.1]; kernel_rfl) ?_)
          | ((with_reducible refine gate_dst (N := 98) rfl ?_); refine evapp_any rfl (.tmp 95) (.tmp 97) rfl w4.heap.size (.slice A4 0 c4) [] rfl (HI7.out.below (below_alloc (Below.refl _ w7) (.cells zE.toArray 46))).e (some ⟨w7.heap.size, 0, none⟩) 1 [zE] rfl (lit_es w7) (by intro h; cases h) (by decide) (HI7.out.below (below_alloc (Below.refl _ w7) (.cells zE.toArray 46))).b.size ?_; intro v1 wa hown1 hgrow1 _; have HOW := Aside0.mk hown1; have HGR := Aside0.mk hgrow1; have HJ7 := Aside0.mk (HI7.out.below (below_alloc (Below.refl _ w7) (.cells zE.toArray 46))); have HGa := Aside0.mk (keepG HJ7.out.e.o HJ7.out.h (by decide) HGR.out); obtain ⟨A9, c9, rfl⟩ := owns_form hown1.o; clear hown1 hgrow1)
          | ((with_reducible refine gate_store (t := 33) (p := 99) (v := .tmp 98) rfl ?_); refine wpList_store_cell rfl 33 (.tmp 99) (.tmp 98) rfl G 54 (.slice A9 1 c9) rfl rfl rfl _ 43 HGa.out (lt_sL HRF.out.1 HRF.out.2 (by decide)) (by kernel_rfl) ?_; intro w8 hf ho; have HF8 := Aside0.mk hf; have HO8 := Aside0.mk ho; clear hf ho))
        all_goals (go_meet; refine ⟨?_⟩)
        · have hk : x.tmod 12 = 1 := by have := ‹(x.tmod 12 == 1) = true›; simpa using this
          exact HI7.out.plain HF8.out HO8.out (cH_setP _) HKR.out HKF.out ⟨fun e => absurd (cH_inj rfl rfl e).1 (by omega), fun e => by omega⟩
        · have hk : x.tmod 12 = 2 := by have := ‹(x.tmod 12 == 2) = true›; simpa using this
          exact HI7.out.plain HF8.out HO8.out (cH_setR HRF.out.1 9 (by decide) _) (HKR.out.set 9 rfl) HKF.out ⟨fun e => absurd (set_ne H9.out (cH_inj (by simp) rfl e).2.1) (by omega), fun e => by omega⟩
        · have hk : x.tmod 12 = 3 := by have := ‹(x.tmod 12 == 3) = true›; simpa using this
          exact HI7.out.plain HF8.out HO8.out (cH_setF HRF.out.1 3 (by rw [HRF.out.2]; decide) _) HKR.out (HKF.out.set 3 rfl) ⟨fun e => absurd (set_ne H3.out (cH_inj rfl (by simp) e).2.2.1) (by omega), fun e => by omega⟩
        · have hk : x.tmod 12 = 4 := by have := ‹(x.tmod 12 == 4) = true›; simpa using this
          exact HI7.out.plain HF8.out HO8.out (cH_setT HRF.out.1 HRF.out.2 _) HKR.out HKF.out ⟨fun e => absurd (cH_inj rfl rfl e).2.2.2.1 (by omega), fun e => by omega⟩
        · have hk : x.tmod 12 = 5 := by have := ‹(x.tmod 12 == 5) = true›; simpa using this
          have hbw := (below_alloc (Below.refl _ w7) (.cells #[.int .u8 1] 5)).mono HI7.out.b.size |>.trans (grownU HJ7.out.x HJ7.out.b.size HGR.out)
          have hram := st_own.2 _ _ _ _ (owns_move HJ7.out.r fun i hi => HGR.out.block i (HJ7.out.r.lt i hi).2 (fun e => HJ7.out.da i e.symm hi)) HGa.out HO8.out
          obtain ⟨n1, n2, _⟩ := HI7.out.nul w8
          have hnew := st_own.2 _ _ _ _ HOW.out HGa.out HO8.out
          exact HI7.out.app (j := 1) (lr := l) (qx := [1]) (qo := []) hbw HGa.out HF8.out HO8.out HRF.out.1 HRF.out.2 rfl (RB.of_own hram HI7.out.n) (RB.of_own (l := [1]) hnew (by decide)) n2 (fun k => by have := k.2.1; cases this) (by omega)
        · have hk : x.tmod 12 = 6 := by have := ‹(x.tmod 12 == 6) = true›; simpa using this
          have hbw := (below_alloc (Below.refl _ w7) (.cells #[.int .u8 1] 5)).mono HI7.out.b.size |>.trans (grownU HJ7.out.q HJ7.out.b.size HGR.out)
          have hram := st_own.2 _ _ _ _ (owns_move HJ7.out.r fun i hi => HGR.out.block i (HJ7.out.r.lt i hi).2 (fun e => HJ7.out.db i e.symm hi)) HGa.out HO8.out
          obtain ⟨n1, n2, _⟩ := HI7.out.nul w8
          have hnew := st_own.2 _ _ _ _ HOW.out HGa.out HO8.out
          exact HI7.out.app (j := 2) (lr := l) (qx := []) (qo := [1]) hbw HGa.out HF8.out HO8.out HRF.out.1 HRF.out.2 rfl (RB.of_own hram HI7.out.n) n1 (RB.of_own (l := [1]) hnew (by decide)) (fun k => by have := k.2.2; cases this) (by omega)
        · have hk : x.tmod 12 = 7 := by have := ‹(x.tmod 12 == 7) = true›; simpa using this
          exact HI7.out.plain HF8.out HO8.out ((cH_setL HRF.out.1 HRF.out.2 3 _).trans (by rfl)) HKR.out HKF.out ⟨fun e => absurd (cH_inj rfl rfl e).2.2.2.2 (by simp [pL]), fun e => by omega⟩
        · have hk : x.tmod 12 = 8 := by have := ‹(x.tmod 12 == 8) = true›; simpa using this
          exact HI7.out.plain HF8.out HO8.out ((cH_setL HRF.out.1 HRF.out.2 6 _).trans (by rfl)) HKR.out HKF.out ⟨fun e => absurd (cH_inj rfl rfl e).2.2.2.2 (by simp [pL]; omega), fun e => by omega⟩
        · have hk : x.tmod 12 = 9 := by have := ‹(x.tmod 12 == 9) = true›; simpa using this
          exact HI7.out.plain HF8.out HO8.out ((cH_setL HRF.out.1 HRF.out.2 8 _).trans (by rfl)) HKR.out HKF.out ⟨fun e => absurd (cH_inj rfl rfl e).2.2.2.2 (by simp [pL]), fun e => by omega⟩
        · have hk : x.tmod 12 = 10 := by have := ‹(x.tmod 12 == 10) = true›; simpa using this
          exact HJ7.out.evs HOW.out HGR.out HF8.out HO8.out HGa.out HRF.out.1 HRF.out.2 (by omega)
        · have hk : x.tmod 12 = 11 := by have := ‹(x.tmod 12 == 11) = true›; simpa using this
          have hbw := (below_alloc (Below.refl _ w7) (.cells #[.int .u8 1] 5)).mono HI7.out.b.size |>.trans (grownU HJ7.out.r HJ7.out.b.size HGR.out)
          obtain ⟨n1, n2, _⟩ := HI7.out.nul w8
          have hnew := st_own.2 _ _ _ _ HOW.out HGa.out HO8.out
          exact HI7.out.app (j := 0) (lr := l ++ [1]) (qx := []) (qo := []) hbw HGa.out HF8.out HO8.out HRF.out.1 HRF.out.2 rfl (RB.of_own (l := l ++ [1]) (n := N + 1) (by simpa using hnew) (by have := HN.out; omega)) n1 n2 (fun k => by have := congrArg List.length k.1; simp at this) (by omega)
        · have hk : x.tmod 12 = 0 := by
            have h1 := ‹(x.tmod 12 == 1) = false›
            have h2 := ‹(x.tmod 12 == 2) = false›
            have h3 := ‹(x.tmod 12 == 3) = false›
            have h4 := ‹(x.tmod 12 == 4) = false›
            have h5 := ‹(x.tmod 12 == 5) = false›
            have h6 := ‹(x.tmod 12 == 6) = false›
            have h7 := ‹(x.tmod 12 == 7) = false›
            have h8 := ‹(x.tmod 12 == 8) = false›
            have h9 := ‹(x.tmod 12 == 9) = false›
            have h10 := ‹(x.tmod 12 == 10) = false›
            have h11 := ‹(x.tmod 12 == 11) = false›
            simp only [beq_eq_false_iff_ne, ne_eq] at h1 h2 h3 h4 h5 h6 h7 h8 h9 h10 h11
            rw [Int.tmod_eq_emod_of_nonneg HX01.out.1] at *
            omega
          exact HI7.out.none hk
      case rest =>
        obtain ⟨pc', rg', fl', tk', ram, rx, ox, ov, m', off', ev, lr, qx, qo, es, hjb, hiff⟩ := hcut.out
        obtain ⟨he, hel, hec, hen⟩ := HE.out
        subst hel
        have HJB := Aside0.mk hjb
        have HIFF := Aside0.mk hiff
        have HES := Aside0.mk he
        have HEN := Aside0.mk hen
        have HLE := Aside0.mk hle
        clear hcut hjb hiff he hec hen HE hle hle'  
        obtain ⟨ie, hie, hze0, hze1, hze2⟩ := info_parts infoE
        have HIE := Aside0.mk (And.intro hie (And.intro hze0 (And.intro hze1 hze2)))
        clear hie hze0 hze1 hze2
        have HWC : Aside0 (Below W.heap.size W wc) := ⟨B4.out.trans (HJB.out.b.mono B4.out.size)⟩
        have HEO0 : Aside0 (EO wc.heap.size (wc.alloc (.cells #[] 46)) (.slice (some ⟨wc.heap.size, 0, none⟩) 0 0) []) := ⟨lit_eo0 (Nat.le_refl _)⟩
        have HB0c := Aside0.mk (below_alloc (Below.refl wc.heap.size wc) (.cells #[] 46))
        go_upto_region 30 with (first
          | ((with_reducible refine gate_dst (N := 109) rfl ?_); refine evapp_any rfl (.tmp 107) (.tmp 108) rfl wc.heap.size (.slice (some ⟨wc.heap.size, 0, none⟩) 0 0) [] rfl HEO0.out Ae cape evs rfl ((HES.out.below HWC.out).below HB0c.out) (fun h => ⟨List.eq_nil_of_length_eq_zero (HEN.out h).1, (HEN.out h).2⟩) (by have := HLE.out; simp; omega) HB0c.out.size ?_; intro v1 wa hown1 hgrow1 hbel1; have HOW1 := Aside0.mk hown1; have HBA := Aside0.mk (HB0c.out.trans hbel1); obtain ⟨A8, c8, rfl⟩ := owns_form hown1.o; clear hown1 hgrow1 hbel1)
          | ((with_reducible refine gate_dst (N := 111) rfl ?_); refine wpList_buildSlice rfl 33 46 1 #[(0, .tmp 110)] rfl zE.toArray ie (.agg zE.toArray) Try.underlying33 HIE.out.1 HIE.out.2.1 (by rw [HIE.out.2.2.1]; decide) (by rw [HIE.out.2.2.1]; decide) (by rw [HIE.out.2.2.1]; kernel_rfl) ?_)
          | ((with_reducible refine gate_dst (N := 112) rfl ?_); refine evapp_any rfl (.tmp 109) (.tmp 111) rfl wc.heap.size (.slice A8 ([] ++ evs).length c8) ([] ++ evs) rfl (HOW1.out.below (below_alloc (Below.refl _ wa) (.cells zE.toArray 46))) (some ⟨wa.heap.size, 0, none⟩) 1 [zE] rfl (lit_es wa) (by intro h; cases h) (by have := HLE.out; simp; omega) (by have := HBA.out.size; simp; omega) ?_; intro v2 wb hown2 hgrow2 hbel2; have HOW2 := Aside0.mk hown2; have HBB := Aside0.mk ((HBA.out.trans ((below_alloc (Below.refl _ wa) (.cells zE.toArray 46)).mono HBA.out.size)).trans hbel2); obtain ⟨A9, c9, rfl⟩ := owns_form hown2.o; clear hown2 hgrow2 hbel2))
        have HWB : Aside0 (Below W.heap.size W wb) := ⟨HWC.out.trans (HBB.out.mono HWC.out.size)⟩
        have HJ : Aside0 (JB w4 G N wb pc' rg' fl' tk' rt ram rx ox ov o m' s off' ev lr qx qo es) := ⟨HJB.out.below HBB.out⟩
        have HM := Aside0.mk (M4.out.below (HJ.out.b))
        have HEV : Aside0 (ES wb Ae evs) := ⟨HES.out.below HWB.out⟩
        have HEO : Aside0 (ES wb A9 (evs ++ [zE])) := ⟨by
          obtain ⟨A, c, h, _, _, hes⟩ := HOW2.out.es
          cases h
          exact hes⟩
        have HCB : Aside0 ((cH pc' rg' fl' tk' rt (sL ram rx ox ov 0 o m' s off' 0 ev)).toArray.size = 55) := ⟨by rw [cH_size (by simpa using HJ.out.kr.len) (by simpa [kF] using HJ.out.kf.len)]; rfl⟩
        clear HJB HES HEO0 HB0c HOW1 HOW2 HBA HBB HWC M4 B4 HIE
        have HI0 : Aside0 (Below wb.heap.size wb wb.drew) := ⟨⟨rfl, rfl, rfl, Nat.le_refl _, fun _ _ => rfl⟩⟩
        obtain ⟨cb, hcb⟩ : ∃ cb, (cH pc' rg' fl' tk' rt (sL ram rx ox ov 0 o m' s off' 0 ev)).toArray = cb := ⟨_, rfl⟩
        refine wp_region_rjk (by kernel_rfl) 24 (fun W' => Below wb.heap.size wb W') RF killsF (postF wb.heap.size p N l pc rg fl tk rt o m s cb x Ae cape evs A9 (evs.length + 1) c9) (by kernel_rfl) (rF_hR (by kernel_rfl)) HI0.out ?step ?fin
        case step =>
          intro i op hi him b W' hinv hkeep hdef hpre K hK
          have HI := Aside0.mk hinv
          have HPRE := Aside0.mk hpre
          have HKEEP := Aside0.mk hkeep
          have HKK := Aside0.mk hK
          have HCBE := Aside0.mk hcb
          clear hinv hpre hkeep hK hdef hcb
          obtain rfl | rfl | rfl | rfl | rfl | rfl | rfl | rfl | rfl | rfl | rfl | rfl | rfl | rfl | rfl | rfl | rfl | rfl | rfl | rfl | rfl | rfl | rfl | rfl : i = 0 ∨ i = 1 ∨ i = 2 ∨ i = 3 ∨ i = 4 ∨ i = 5 ∨ i = 6 ∨ i = 7 ∨ i = 8 ∨ i = 9 ∨ i = 10 ∨ i = 11 ∨ i = 12 ∨ i = 13 ∨ i = 14 ∨ i = 15 ∨ i = 16 ∨ i = 17 ∨ i = 18 ∨ i = 19 ∨ i = 20 ∨ i = 21 ∨ i = 22 ∨ i = 23 := by omega
          · cases hi
            have e7 : b.tmps.getD 7 undef = .pointer (some ⟨p, 0, none⟩) := HKEEP.out 7 (by kernel_rfl)
            rw [if_pos (by rfl)]
            go_simp
            exact HKK.out _ _ HI.out (.inl (Below.refl _ _)) (by first | rfl | (simp [postF]; done) | (show _ = _; simp; done))
          · cases hi
            have e113 : b.tmps.getD 113 undef = .pointer (some ⟨p, 0, none⟩) := HPRE.out 0 (by kernel_rfl) (by omega) (by intro k hk; simp [killsF, hk])
            rw [if_pos (by rfl)]
            go_simp
            refine (cstate_ev (HM.out.below HI.out) (EO.nil W.heap.size W') (by decide) (by have := HN.out; omega) (by decide)).mono ?_
            rintro e W2 ⟨vr, vx, vo, ve, rfl, o1, o2, o3, eo, d⟩
            obtain ⟨A2, c2, rfl⟩ := owns_form o2
            obtain ⟨A3, c3, rfl⟩ := owns_form o3
            obtain ⟨A4, c4, rfl⟩ := owns_form eo.o
            exact HKK.out _ _ (below_on HI.out d) (.inl d) ⟨vr, A2, c2, A3, c3, A4, c4, rfl, con_zero_base o1 HI.out.size⟩
          · cases hi
            have e9 : b.tmps.getD 9 undef = .pointer (some ⟨G, 0, none⟩) := HKEEP.out 9 (by kernel_rfl)
            rw [if_pos (by rfl)]
            refine wp_load_arr 43 (.tmp 9) rfl G e9 cb (by rw [← HCBE.out]; exact blk_below HJ.out.h HI.out) _ Try.underlying43 rfl (by rw [← HCBE.out, HCB.out]; exact st_size) ?_
            exact HKK.out _ _ HI.out (.inl (Below.refl _ _)) (by first | rfl | (simp [postF]; done) | (show _ = _; simp; done))
          · cases hi
            obtain ⟨vr, A2, c2, A3, c3, A4, c4, e114, o1⟩ := HPRE.out 1 (by kernel_rfl) (by omega) (by intro k hk; simp [killsF, hk])
            replace e114 : b.tmps.getD 114 undef = _ := e114
            have e115 : b.tmps.getD 115 undef = .agg cb := HPRE.out 2 (by kernel_rfl) (by omega) (by intro k hk; simp [killsF, hk])
            rw [← HCBE.out] at e115
            have hsn := (HJ.out.below HI.out).smin (m := m) (tk := tk) (pc := pc) (RB.of_own o1 (by have := HN.out; omega)) (RB.nil W' A2 c2) (RB.nil W' A3 c3) ⟨A4, c4, rfl⟩ HKR.out HKF.out (by rw [HLN.out]; have := HN.out; omega)
            obtain ⟨x0, x1, x2, x3, x4, hs, hx⟩ := hsn
            have HSN := Aside0.mk (csame_calls W' hs)
            have HXX : Aside0 ((x0 && x1 && x2 && x3 && x4) = (x.tmod 12 == 0)) := ⟨Bool.eq_iff_iff.2 (hx.trans (HIFF.out.trans beq_iff_eq.symm))⟩
            clear hs hx
            rw [if_pos (by rfl)]
            go_simp
            refine HSN.out.mono ?_
            rintro e W2 ⟨rfl, d⟩
            exact HKK.out _ _ (below_on HI.out d) (.inl d) (congrArg Value.bool HXX.out)
          · cases hi
            have e2 : b.tmps.getD 2 undef = .int .u8 x := HKEEP.out 2 (by kernel_rfl)
            rw [if_pos (by rfl)]
            go_simp
            exact HKK.out _ _ HI.out (.inl (Below.refl _ _)) (by first | rfl | (simp [postF]; done) | (show _ = _; simp; done))
          · cases hi
            have e117 : b.tmps.getD 117 undef = .int .u8 x := HPRE.out 4 (by kernel_rfl) (by omega) (by intro k hk; simp [killsF, hk])
            rw [if_pos (by rfl)]
            go_simp
            exact HKK.out _ _ HI.out (.inl (Below.refl _ _)) (by first | rfl | (simp [postF]; done) | (show _ = _; simp; done))
          · cases hi
            have e118 : b.tmps.getD 118 undef = .int .u8 (x.tmod 12) := HPRE.out 5 (by kernel_rfl) (by omega) (by intro k hk; simp [killsF, hk])
            rw [if_pos (by rfl)]
            go_simp
            exact HKK.out _ _ HI.out (.inl (Below.refl _ _)) (by first | rfl | (simp [postF]; done) | (show _ = _; simp; done))
          · cases hi
            have e116 : b.tmps.getD 116 undef = .bool (x.tmod 12 == 0) := HPRE.out 3 (by kernel_rfl) (by omega) (by intro k hk; simp [killsF, hk])
            have e119 : b.tmps.getD 119 undef = .bool (x.tmod 12 == 0) := HPRE.out 6 (by kernel_rfl) (by omega) (by intro k hk; simp [killsF, hk])
            rw [if_pos (by rfl)]
            go_simp
            exact HKK.out _ _ HI.out (.inl (Below.refl _ _)) (by first | rfl | (simp [postF]; done) | (show _ = _; simp; done))
          · cases hi
            have e120 : b.tmps.getD 120 undef = .bool true := HPRE.out 7 (by kernel_rfl) (by omega) (by intro k hk; simp [killsF, hk])
            rw [if_pos (by rfl)]
            go_simp
            exact HKK.out _ _ HI.out (.inl (Below.refl _ _)) (by first | rfl | (simp [postF]; done) | (show _ = _; simp; done))
          · cases hi
            have e121 : b.tmps.getD 121 undef = .bool true := HPRE.out 8 (by kernel_rfl) (by omega) (by intro k hk; simp [killsF, hk])
            have e1 : b.tmps.getD 1 undef = .slice Ae evs.length cape := HKEEP.out 1 (by kernel_rfl)
            rw [if_pos (wanted_yes rfl rfl rfl e121)]
            go_simp
            exact HKK.out _ _ HI.out (.inl (Below.refl _ _)) (by first | rfl | (simp [postF]; done) | (show _ = _; simp; done))
          · cases hi
            have e121 : b.tmps.getD 121 undef = .bool true := HPRE.out 8 (by kernel_rfl) (by omega) (by intro k hk; simp [killsF, hk])
            rw [if_pos (wanted_yes rfl rfl rfl e121)]
            go_simp
            exact HKK.out _ _ (below_alloc HI.out _) (.inl (below_alloc (Below.refl _ W') _)) ⟨_, rfl, HI.out.size, heap_alloc_new W' _⟩
          · cases hi
            have e121 : b.tmps.getD 121 undef = .bool true := HPRE.out 8 (by kernel_rfl) (by omega) (by intro k hk; simp [killsF, hk])
            have e1 : b.tmps.getD 1 undef = .slice Ae evs.length cape := HKEEP.out 1 (by kernel_rfl)
            rw [if_pos (wanted_yes rfl rfl rfl e121)]
            go_simp
            exact HKK.out _ _ HI.out (.inl (Below.refl _ _)) (by first | rfl | (simp [postF]; done) | (show _ = _; simp; done))
          · cases hi
            have e121 : b.tmps.getD 121 undef = .bool true := HPRE.out 8 (by kernel_rfl) (by omega) (by intro k hk; simp [killsF, hk])
            obtain ⟨g, e123, hg, hh⟩ := HPRE.out 10 (by kernel_rfl) (by omega) (by intro k hk; simp [killsF, hk])
            have e124 : b.tmps.getD 124 undef = .slice Ae evs.length cape := HPRE.out 11 (by kernel_rfl) (by omega) (by intro k hk; simp [killsF, hk])
            rw [if_pos (wanted_yes rfl rfl rfl e121)]
            have hown : EO wb.heap.size W' (.slice (some ⟨g, 0, none⟩) 0 0) [] := ⟨⟨rfl, .inr ⟨g, 0, #[], rfl, hg, hh, Nat.le_refl _, by decide, rfl, rfl⟩⟩, fun e he => by cases he⟩
            refine evapp_op (.tmp 123) (.tmp 124) rfl wb.heap.size _ [] e123 hown Ae cape evs e124 (HEV.out.below HI.out) (fun h => ⟨List.eq_nil_of_length_eq_zero (HEN.out h).1, (HEN.out h).2⟩) (by have := HLE.out; simp; omega) HI.out.size ?_
            intro v' w' h1 h2
            exact HKK.out v' w' (HI.out.trans (grownU hown.o HI.out.size h2)) (.inr ⟨rfl, g, hh, h2⟩) h1
          · cases hi
            have e121 : b.tmps.getD 121 undef = .bool true := HPRE.out 8 (by kernel_rfl) (by omega) (by intro k hk; simp [killsF, hk])
            have e122 : b.tmps.getD 122 undef = .slice Ae evs.length cape := HPRE.out 9 (by kernel_rfl) (by omega) (by intro k hk; simp [killsF, hk])
            have o125 : EO wb.heap.size W' (b.tmps.getD 125 undef) evs := HPRE.out 12 (by kernel_rfl) (by omega) (by intro k hk; simp [killsF, hk])
            obtain ⟨A7, c7, e125, _, _, hes⟩ := o125.es
            have HE7 := Aside0.mk hes
            clear hes o125
            rw [if_pos (wanted_yes rfl rfl rfl e121)]
            go_simp
            have hq := sameev_calls W' Ae A7 cape c7 evs evs (HEV.out.below HI.out) HE7.out (by have := HLE.out; omega) (by have := HLE.out; simp; omega)
            refine hq.mono ?_
            rintro e W2 ⟨y, rfl, hy, d⟩
            obtain rfl : y = true := hy.2 rfl
            exact HKK.out _ _ (below_on HI.out d.below) (.inl d.below) rfl
          · cases hi
            have e121 : b.tmps.getD 121 undef = .bool true := HPRE.out 8 (by kernel_rfl) (by omega) (by intro k hk; simp [killsF, hk])
            have e126 : b.tmps.getD 126 undef = .bool true := HPRE.out 13 (by kernel_rfl) (by omega) (by intro k hk; simp [killsF, hk])
            rw [if_pos (by rfl)]
            go_simp
            exact HKK.out _ _ HI.out (.inl (Below.refl _ _)) (by first | rfl | (simp [postF]; done) | (show _ = _; simp; done))
          · cases hi
            have e127 : b.tmps.getD 127 undef = .bool true := HPRE.out 14 (by kernel_rfl) (by omega) (by intro k hk; simp [killsF, hk])
            rw [if_pos (by rfl)]
            go_simp
            exact HKK.out _ _ HI.out (.inl (Below.refl _ _)) (by first | rfl | (simp [postF]; done) | (show _ = _; simp; done))
          · cases hi
            have e128 : b.tmps.getD 128 undef = .bool true := HPRE.out 15 (by kernel_rfl) (by omega) (by intro k hk; simp [killsF, hk])
            have e1 : b.tmps.getD 1 undef = .slice Ae evs.length cape := HKEEP.out 1 (by kernel_rfl)
            rw [if_pos (wanted_yes rfl rfl rfl e128)]
            go_simp
            exact HKK.out _ _ HI.out (.inl (Below.refl _ _)) (by first | rfl | (simp [postF]; done) | (show _ = _; simp; done))
          · cases hi
            have e128 : b.tmps.getD 128 undef = .bool true := HPRE.out 15 (by kernel_rfl) (by omega) (by intro k hk; simp [killsF, hk])
            have e10 : b.tmps.getD 10 undef = .slice A9 (evs.length + 1) c9 := HKEEP.out 10 (by kernel_rfl)
            rw [if_pos (wanted_yes rfl rfl rfl e128)]
            go_simp
            exact HKK.out _ _ HI.out (.inl (Below.refl _ _)) (by first | rfl | (simp [postF]; done) | (show _ = _; simp; done))
          · cases hi
            have e128 : b.tmps.getD 128 undef = .bool true := HPRE.out 15 (by kernel_rfl) (by omega) (by intro k hk; simp [killsF, hk])
            have e129 : b.tmps.getD 129 undef = .slice Ae evs.length cape := HPRE.out 16 (by kernel_rfl) (by omega) (by intro k hk; simp [killsF, hk])
            have e130 : b.tmps.getD 130 undef = .slice A9 (evs.length + 1) c9 := HPRE.out 17 (by kernel_rfl) (by omega) (by intro k hk; simp [killsF, hk])
            rw [if_pos (wanted_yes rfl rfl rfl e128)]
            go_simp
            have hq := sameev_calls W' Ae A9 cape c9 evs (evs ++ [zE]) (HEV.out.below HI.out) (HEO.out.below HI.out) (by have := HLE.out; omega) (by have := HLE.out; simp; omega)
            rw [show (evs ++ [zE]).length = evs.length + 1 by simp] at hq
            refine hq.mono ?_
            rintro e W2 ⟨y, rfl, hy, d⟩
            have hy' : y = false := by
              cases y with
              | false => rfl
              | true => have := congrArg List.length (hy.1 rfl); simp at this
            subst hy'
            exact HKK.out _ _ (below_on HI.out d.below) (.inl d.below) rfl
          · cases hi
            have e128 : b.tmps.getD 128 undef = .bool true := HPRE.out 15 (by kernel_rfl) (by omega) (by intro k hk; simp [killsF, hk])
            have e131 : b.tmps.getD 131 undef = .bool false := HPRE.out 18 (by kernel_rfl) (by omega) (by intro k hk; simp [killsF, hk])
            rw [if_pos (wanted_yes rfl rfl rfl e128)]
            go_simp
            exact HKK.out _ _ HI.out (.inl (Below.refl _ _)) (by first | rfl | (simp [postF]; done) | (show _ = _; simp; done))
          · cases hi
            have e128 : b.tmps.getD 128 undef = .bool true := HPRE.out 15 (by kernel_rfl) (by omega) (by intro k hk; simp [killsF, hk])
            have e132 : b.tmps.getD 132 undef = .bool true := HPRE.out 19 (by kernel_rfl) (by omega) (by intro k hk; simp [killsF, hk])
            rw [if_pos (by rfl)]
            go_simp
            exact HKK.out _ _ HI.out (.inl (Below.refl _ _)) (by first | rfl | (simp [postF]; done) | (show _ = _; simp; done))
          · cases hi
            have e133 : b.tmps.getD 133 undef = .bool true := HPRE.out 20 (by kernel_rfl) (by omega) (by intro k hk; simp [killsF, hk])
            rw [if_pos (by rfl)]
            go_simp
            exact HKK.out _ _ HI.out (.inl (Below.refl _ _)) (by first | rfl | (simp [postF]; done) | (show _ = _; simp; done))
          · cases hi
            have e134 : b.tmps.getD 134 undef = .bool true := HPRE.out 21 (by kernel_rfl) (by omega) (by intro k hk; simp [killsF, hk])
            rw [if_pos (wanted_yes rfl rfl rfl e134)]
            go_simp
            refine (cpu_awake_calls _).mono ?_
            rintro e W2 ⟨rfl, d⟩
            exact HKK.out _ _ (below_on HI.out d) (.inl d) rfl
          · cases hi
            have e134 : b.tmps.getD 134 undef = .bool true := HPRE.out 21 (by kernel_rfl) (by omega) (by intro k hk; simp [killsF, hk])
            have e135 : b.tmps.getD 135 undef = .bool true := HPRE.out 22 (by kernel_rfl) (by omega) (by intro k hk; simp [killsF, hk])
            rw [if_pos (by rfl)]
            go_simp
            exact HKK.out _ _ HI.out (.inl (Below.refl _ _)) (by first | rfl | (simp [postF]; done) | (show _ = _; simp; done))
        case fin =>
          intro b W' hinv hsz hdef hkeep hpost
          have e136 : b.tmps.getD 136 undef = .bool true := hpost 23 (by omega) (by intro k hk; simp [killsF])
          refine rj_lastv (by kernel_rfl) rfl (by kernel_rfl) rfl (by kernel_rfl) ?_
          obtain ⟨sl, hlit, hsl⟩ := act_let b 137 hsz
          rw [hdef] at hlit
          rw [← hsl] at e136
          simp only [show List.range 137 = [0, 1, 2, 3, 4, 5, 6, 7, 8, 9, 10, 11, 12, 13, 14, 15, 16, 17, 18, 19, 20, 21, 22, 23, 24, 25, 26, 27, 28, 29, 30, 31, 32, 33, 34, 35, 36, 37, 38, 39, 40, 41, 42, 43, 44, 45, 46, 47, 48, 49, 50, 51, 52, 53, 54, 55, 56, 57, 58, 59, 60, 61, 62, 63, 64, 65, 66, 67, 68, 69, 70, 71, 72, 73, 74, 75, 76, 77, 78, 79, 80, 81, 82, 83, 84, 85, 86, 87, 88, 89, 90, 91, 92, 93, 94, 95, 96, 97, 98, 99, 100, 101, 102, 103, 104, 105, 106, 107, 108, 109, 110, 111, 112, 113, 114, 115, 116, 117, 118, 119, 120, 121, 122, 123, 124, 125, 126, 127, 128, 129, 130, 131, 132, 133, 134, 135, 136] from rfl, List.map_cons, List.map_nil, e136] at hlit
          rw [hlit]
          clear hkeep hsz hdef hpost hsl hlit e136
          have BF := Aside0.mk (HWB.out.trans (hinv.mono HWB.out.size))
          clear hinv
          go_simp
          go_wp2
          go_ret
          exact ⟨rfl, BF.out⟩
    · have hle' : decide ((lene : Int) > 50) = true := by simp; omega
      go_wp2_with fail
      refine (cpu_awake_calls _).mono ?_
      rintro e w3 ⟨rfl, d⟩
      have B3 := Aside0.mk (below_on B2.out d)
      clear d B2
      go_wp2_with fail
      go_ret
      exact ⟨rfl, B3.out⟩
end
/-- The law, its arguments laid open. -/
theorem cpu_same (n : Int) (A : Option Addr) (len cap : Nat) (f : Nat → Nat → Int) (pp : Nat → Option Addr) (nn c : Nat → Nat) (bb : Nat → List Int) (Ai : Option Addr) (leni capi : Nat) (fi : Nat → Nat → Int) (pc : Int) (rs ks : List Int) (cy cn o m : Int) (s : Bool) (tk rt : Int) (Ae : Option Addr) (lene cape : Nat) (evs : List (List Value)) (x : Int) (W : World)
    (h : StartOk W n A len cap f pp nn c bb Ai leni capi fi pc rs ks cy cn o m tk rt) (he : evs.length = lene ∧ ES W Ae evs ∧ lene ≤ cape ∧ cape ≤ maxLen ∧ (Ae = none → lene = 0 ∧ cape = 0)) (wx : (Lit.int .u8 x).wf = true) :
    Calls Try.prog 3 #[.agg (stC n (.slice A len cap) (.slice Ai leni capi) pc (rs.map (Value.int .u32)) (ks.map (Value.int .u32) ++ [.int .u64 cy, .int .u64 cn]) o m s tk rt).toArray, .slice Ae lene cape, .int .u8 x] W fun e w' => e = .returned (.bool true) ∧ Below W.heap.size W w' := by
  have hx : 0 ≤ x ∧ x < 256 := by
    simp [Lit.wf, IntKind.min, IntKind.max, IntKind.bits, IntKind.signed] at wx
    omega
  exact same_walk h s Ae lene cape evs he.2.1 he.1 he.2.2.1 he.2.2.2.2 x hx.1 hx.2
end Go.Proofs.Ytfnbpmkbjbibkaa
