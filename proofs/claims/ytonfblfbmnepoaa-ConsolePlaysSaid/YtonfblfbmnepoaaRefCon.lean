/- The statements' own console (mimesisref12): Read, Write, by contract. -/
import Derived.Test.YtonfblfbmnepoaaConRight
import Derived.Test.YtonfblfbmnepoaaRefFifo
import Derived.Deep.WholeRow
import Derived.Laws.Tables
namespace Go.Proofs.Ytonfblfbmnepoaa
open Go Go.RowKit Go.Deep Go.Proofs.YtonfblfbmnepoaaW.PrintWords
set_option linter.unusedVariables false
set_option linter.unusedSimpArgs false

/-- v is the statements' console: what came, what waits, was one lost, what went out; X holds of none of its blocks. -/
def VC (w : World) (X : Nat → Prop) (A : Option Addr) (len cap : Nat) (v : Value) (came : Nat) (q : List Int) (over : Bool) (out : List Int) : Prop :=
  ∃ Ar cr Ao co, v = .agg #[.slice A len cap, .int .i64 (came : Int), .slice Ar q.length cr, .bool over, .slice Ao out.length co] ∧ VR w X Ar cr q ∧ VR w X Ao co out

/-- The two boxes at B: the console, and what is handed back. -/
structure Two (w : World) (B : Nat) (a b c d e : Value) (r0 r1 r2 r3 r4 : Value) : Prop where
  b : w.heap[B]? = some (.cells #[a, b, c, d, e] 73 (0, 0))
  r : w.heap[B + 1]? = some (.cells #[r0, r1, r2, r3, r4] 73 (0, 0))
theorem Two.new (w : World) (a b c d e r0 r1 r2 r3 r4 : Value) : Two ((w.alloc (.cells #[a, b, c, d, e] 73)).alloc (.cells #[r0, r1, r2, r3, r4] 73)) w.heap.size a b c d e r0 r1 r2 r3 r4 := by
  refine ⟨blk_below (blk_new w _) (below_alloc (Below.refl _ _) _), ?_⟩
  have := blk_new (w.alloc (.cells #[a, b, c, d, e] 73)) (.cells #[r0, r1, r2, r3, r4] 73)
  rwa [World.size_alloc] at this
theorem Two.below {w w' : World} {B : Nat} {a b c d e r0 r1 r2 r3 r4 : Value} (h : Two w B a b c d e r0 r1 r2 r3 r4) (k : Below w.heap.size w w') : Two w' B a b c d e r0 r1 r2 r3 r4 := ⟨blk_below h.b k, blk_below h.r k⟩
theorem two_below (w : World) (a b c d e r0 r1 r2 r3 r4 : Value) : Below w.heap.size w ((w.alloc (.cells #[a, b, c, d, e] 73)).alloc (.cells #[r0, r1, r2, r3, r4] 73)) := below_alloc (below_alloc (Below.refl _ _) _) _
theorem Two.cells {w : World} {B : Nat} {a b c d e r0 r1 r2 r3 r4 : Value} (h : Two w B a b c d e r0 r1 r2 r3 r4) : (w.cell? ⟨B, 0, none⟩ = some a ∧ w.cell? ⟨B, 1, none⟩ = some b ∧ w.cell? ⟨B, 2, none⟩ = some c ∧ w.cell? ⟨B, 3, none⟩ = some d ∧ w.cell? ⟨B, 4, none⟩ = some e) ∧ (w.cell? ⟨B + 1, 0, none⟩ = some r0 ∧ w.cell? ⟨B + 1, 1, none⟩ = some r1 ∧ w.cell? ⟨B + 1, 2, none⟩ = some r2 ∧ w.cell? ⟨B + 1, 3, none⟩ = some r3 ∧ w.cell? ⟨B + 1, 4, none⟩ = some r4) :=
  ⟨⟨(blk_cell h.b 0).trans rfl, (blk_cell h.b 1).trans rfl, (blk_cell h.b 2).trans rfl, (blk_cell h.b 3).trans rfl, (blk_cell h.b 4).trans rfl⟩, (blk_cell h.r 0).trans rfl, (blk_cell h.r 1).trans rfl, (blk_cell h.r 2).trans rfl, (blk_cell h.r 3).trans rfl, (blk_cell h.r 4).trans rfl⟩
theorem Two.frozen {w : World} {B : Nat} {a b c d e r0 r1 r2 r3 r4 : Value} (h : Two w B a b c d e r0 r1 r2 r3 r4) : (∀ i, w.frozen? ⟨B, i, none⟩ = false) ∧ ∀ i, w.frozen? ⟨B + 1, i, none⟩ = false := ⟨blk_frozen h.b, blk_frozen h.r⟩

theorem Two.setB {w : World} {B : Nat} {a b c d e r0 r1 r2 r3 r4 : Value} (h : Two w B a b c d e r0 r1 r2 r3 r4) (i : Nat) (u : Value) (cs : Array Value) (hcs : #[a, b, c, d, e].setIfInBounds i u = cs) : (w.setCell ⟨B, i, none⟩ u).heap[B]? = some (.cells cs 73 (0, 0)) ∧ (w.setCell ⟨B, i, none⟩ u).heap[B + 1]? = some (.cells #[r0, r1, r2, r3, r4] 73 (0, 0)) :=
  ⟨hcs ▸ blk_set h.b i u, blk_only h.r ((Only.refl B w).setCell i u) (by omega)⟩
theorem Two.set1 {w : World} {B : Nat} {a b c d e r0 r1 r2 r3 r4 : Value} (h : Two w B a b c d e r0 r1 r2 r3 r4) (u : Value) : Two (w.setCell ⟨B, 1, none⟩ u) B a u c d e r0 r1 r2 r3 r4 := ⟨(h.setB 1 u _ rfl).1, (h.setB 1 u _ rfl).2⟩
theorem Two.set2 {w : World} {B : Nat} {a b c d e r0 r1 r2 r3 r4 : Value} (h : Two w B a b c d e r0 r1 r2 r3 r4) (u : Value) : Two (w.setCell ⟨B, 2, none⟩ u) B a b u d e r0 r1 r2 r3 r4 := ⟨(h.setB 2 u _ rfl).1, (h.setB 2 u _ rfl).2⟩
theorem Two.set3 {w : World} {B : Nat} {a b c d e r0 r1 r2 r3 r4 : Value} (h : Two w B a b c d e r0 r1 r2 r3 r4) (u : Value) : Two (w.setCell ⟨B, 3, none⟩ u) B a b c u e r0 r1 r2 r3 r4 := ⟨(h.setB 3 u _ rfl).1, (h.setB 3 u _ rfl).2⟩
theorem Two.set4 {w : World} {B : Nat} {a b c d e r0 r1 r2 r3 r4 : Value} (h : Two w B a b c d e r0 r1 r2 r3 r4) (u : Value) : Two (w.setCell ⟨B, 4, none⟩ u) B a b c d u r0 r1 r2 r3 r4 := ⟨(h.setB 4 u _ rfl).1, (h.setB 4 u _ rfl).2⟩
/-- The whole of the console is stored into the other box. -/
def copyW (w : World) (B : Nat) (a b c d e : Value) : World := ((((w.setCell ⟨B + 1, 0, none⟩ a).setCell ⟨B + 1, 1, none⟩ b).setCell ⟨B + 1, 2, none⟩ c).setCell ⟨B + 1, 3, none⟩ d).setCell ⟨B + 1, 4, none⟩ e
theorem Two.copy {w : World} {B : Nat} {a b c d e r0 r1 r2 r3 r4 : Value} (h : Two w B a b c d e r0 r1 r2 r3 r4) : (copyW w B a b c d e).heap[B + 1]? = some (.cells #[a, b, c, d, e] 73 (0, 0)) := by
  have h1 := blk_set h.r 0 a
  have h2 := blk_set h1 1 b
  have h3 := blk_set h2 2 c
  have h4 := blk_set h3 3 d
  exact blk_set h4 4 e
/-- Writes to the two boxes alone. -/
def TX (B : Nat) (k : Nat) : Prop := k = B ∨ k = B + 1
theorem tx_b {B : Nat} {a w : World} (h : OnlyP (TX B) a w) (i : Nat) (u : Value) : OnlyP (TX B) a (w.setCell ⟨B, i, none⟩ u) := h.trans (.of_only ((Only.refl B w).setCell i u) (.inl rfl))
theorem tx_r {B : Nat} {a w : World} (h : OnlyP (TX B) a w) (i : Nat) (u : Value) : OnlyP (TX B) a (w.setCell ⟨B + 1, i, none⟩ u) := h.trans (.of_only ((Only.refl (B + 1) w).setCell i u) (.inr rfl))
theorem tx_copy {B : Nat} {w0 w : World} (h : OnlyP (TX B) w0 w) (a b c d e : Value) : OnlyP (TX B) w0 (copyW w B a b c d e) := tx_r (tx_r (tx_r (tx_r (tx_r h 0 a) 1 b) 2 c) 3 d) 4 e
/-- The rows of the console, kept apart from the two boxes. -/
def XB (X : Nat → Prop) (B : Nat) (k : Nat) : Prop := X k ∨ TX B k
theorem VR.xb {w : World} {X : Nat → Prop} {A : Option Addr} {c : Nat} {q : List Int} (h : VR w X A c q) : VR w (XB X w.heap.size) A c q := h.wide fun k hk => hk.imp id (fun h => by rcases h with rfl | rfl <;> omega)
theorem VR.unxb {w : World} {X : Nat → Prop} {B : Nat} {A : Option Addr} {c : Nat} {q : List Int} (h : VR w (XB X B) A c q) : VR w X A c q := h.wide fun k hk => .inl (.inl hk)
theorem VR.tx {w w' : World} {X : Nat → Prop} {B : Nat} {A : Option Addr} {c : Nat} {q : List Int} (h : VR w (XB X B) A c q) (k : OnlyP (TX B) w w') : VR w' (XB X B) A c q := h.move fun i hi hn => k.block i hi (fun hx => hn (.inr hx))
theorem results_cell_row_tmp {P : Program} {fn : Func} {p u : Tmp} {ty : TypeId} (h : fn.results = #[.cell p ty, .tmp u]) (tmps : Array Value) (w : World) (g : Nat) (t : TypeId) (cs : Array Value) (fr : Nat × Nat) (d : TypeDesc)
    (hp : tmps.getD p undef = .pointer (some ⟨g, 0, none⟩)) (hg : w.heap[g]? = some (.cells cs t fr))
    (hu : P.underlying ty = some d) (hd : (match d with | .struct _ | .array _ _ => true | _ => false) = true) (hi : (P.info? ty).map (·.size) = some cs.size) :
    (results fn tmps).run P w = .ok (.tuple #[.agg cs, tmps.getD u undef]) w := by
  rw [results_cell_tmp h]
  have hp' : (asAddr (tmps.getD p undef)).run P w = .ok ⟨g, 0, none⟩ w := by rw [hp]; rfl
  rw [hp']
  simp only [Result.andThen_ok]
  rw [run_loadVar_row w g t ty cs fr d hg hu hd hi]
  rfl

set_option maxRecDepth 100000 in
set_option maxHeartbeats 1000000 in
theorem rread0_calls (w : World) (X : Nat → Prop) (A : Option Addr) (len cap came : Nat) (q : List Int) (over : Bool) (out : List Int) (v : Value) (h : VC w X A len cap v came q over out) (hq : q.length ≤ 16) (hw : ∀ x ∈ q, 0 ≤ x ∧ x < 256) :
    Calls Try.prog 60 #[v, .int .i64 0] w fun e w' => ∃ v', e = .returned (.tuple #[v', .int .u32 (q.headD 0)]) ∧ VC w' X A len cap v' came q.tail over out ∧ Below w.heap.size w w' := by
  obtain ⟨Ar, cr, Ao, co, rfl, hr, ho⟩ := h
  have HR := Aside0.mk hr
  have HO := Aside0.mk ho
  clear hr ho
  have HB := Aside0.mk (two_below w (.slice A len cap) (.int .i64 (came : Int)) (.slice Ar q.length cr) (.bool over) (.slice Ao out.length co) (.slice none 0 0) (.int .i64 0) (.slice none 0 0) (.bool false) (.slice none 0 0))
  have HT := Aside0.mk (Two.new w (.slice A len cap) (.int .i64 (came : Int)) (.slice Ar q.length cr) (.bool over) (.slice Ao out.length co) (.slice none 0 0) (.int .i64 0) (.slice none 0 0) (.bool false) (.slice none 0 0))
  go_enter Try.func60, Try.ntmps60
  go_wp2_with fail
  refine (rpop_calls _ (XB X w.heap.size) Ar cr q (HR.out.xb.below HB.out) (by omega)).mono ?_
  rintro e w1 ⟨A', c', rfl, hv, d⟩
  have HV := Aside0.mk hv
  have HO1 := Aside0.mk ((HO.out.xb.below HB.out).drawn d)
  have HT1 := Aside0.mk (HT.out.below d.below)
  have HB1 := Aside0.mk (below_on HB.out d.below)
  clear hv d HR HO HT HB
  have hx : 0 ≤ q.headD 0 ∧ q.headD 0 < 4294967296 := by
    cases q with
    | nil => simp
    | cons x q => have := hw x (by simp); simp; omega
  obtain ⟨x, hxe⟩ : ∃ x, q.headD 0 = x := ⟨_, rfl⟩
  rw [hxe] at hx ⊢
  have HXE := Aside0.mk hxe
  clear hxe hw
  obtain ⟨B, hB⟩ : ∃ B, w.heap.size = B := ⟨_, rfl⟩
  rw [hB] at HT1 HV HO1
  obtain ⟨⟨c0, c1, c2, c3, c4⟩, r0, r1, r2, r3, r4⟩ := HT1.out.cells
  obtain ⟨zb, zr⟩ := HT1.out.frozen
  have HBS := Aside0.mk hB
  rw [hB]
  clear hB
  go_wp2_with fail
  have HT2 := Aside0.mk (HT1.out.set2 (.slice A' (q.length - 1) c'))
  have HC := Aside0.mk HT2.out.copy
  have HX := Aside0.mk (tx_copy (tx_b (OnlyP.refl (TX B) w1) 2 (.slice A' (q.length - 1) c')) (.slice A len cap) (.int .i64 (came : Int)) (.slice A' (q.length - 1) c') (.bool over) (.slice Ao out.length co))
  refine bodyPost_ret (results_cell_row_tmp rfl _ _ (B + 1) 73 _ (0, 0) _ rfl HC.out Try.underlying73 rfl (by kernel_rfl)) rfl ?_
  have hl : q.tail.length = q.length - 1 := List.length_tail
  rw [HXE.out]
  refine ⟨_, rfl, ⟨A', c', Ao, co, by rw [hl], (HV.out.tx HX.out).unxb, (HO1.out.tx HX.out).unxb⟩, ?_⟩
  exact HX.out.below (fun k hk => by have := HBS.out; rcases hk with rfl | rfl <;> omega) HB1.out
theorem two_start (w : World) (X : Nat → Prop) (A : Option Addr) (len cap came : Nat) (q : List Int) (over : Bool) (out : List Int) {Ar : Option Addr} {cr : Nat} {Ao : Option Addr} {co : Nat} (hr : VR w X Ar cr q) (ho : VR w X Ao co out) :
    ∀ w2, w2 = ((w.alloc (.cells #[.slice A len cap, .int .i64 (came : Int), .slice Ar q.length cr, .bool over, .slice Ao out.length co] 73)).alloc (.cells #[.slice none 0 0, .int .i64 0, .slice none 0 0, .bool false, .slice none 0 0] 73)) →
    (VR w2 (XB X w.heap.size) Ar cr q ∧ VR w2 (XB X w.heap.size) Ao co out) ∧ Below w.heap.size w w2 ∧ Two w2 w.heap.size (.slice A len cap) (.int .i64 (came : Int)) (.slice Ar q.length cr) (.bool over) (.slice Ao out.length co) (.slice none 0 0) (.int .i64 0) (.slice none 0 0) (.bool false) (.slice none 0 0) := by
  rintro w2 rfl
  have hb := two_below w (.slice A len cap) (.int .i64 (came : Int)) (.slice Ar q.length cr) (.bool over) (.slice Ao out.length co) (.slice none 0 0) (.int .i64 0) (.slice none 0 0) (.bool false) (.slice none 0 0)
  exact ⟨⟨hr.xb.below hb, ho.xb.below hb⟩, hb, Two.new _ _ _ _ _ _ _ _ _ _ _⟩

set_option maxRecDepth 100000 in
set_option maxHeartbeats 1000000 in
theorem rread4_calls (w : World) (X : Nat → Prop) (A : Option Addr) (len cap came : Nat) (q : List Int) (over : Bool) (out : List Int) (v : Value) (h : VC w X A len cap v came q over out) (hq : q.length ≤ 16) :
    Calls Try.prog 60 #[v, .int .i64 4] w fun e w' => ∃ v', e = .returned (.tuple #[v', .int .u32 ((if 0 < q.length then 1 else 0) + (if over then 2 else 0))]) ∧ VC w' X A len cap v' came q over out ∧ Below w.heap.size w w' := by
  obtain ⟨Ar, cr, Ao, co, rfl, hr, ho⟩ := h
  have HS := Aside0.mk (two_start w X A len cap came q over out hr ho)
  clear hr ho
  obtain ⟨n, hn⟩ : ∃ n, q.length = n := ⟨_, rfl⟩
  rw [hn] at HS hq ⊢
  have HN := Aside0.mk hn
  clear hn
  obtain ⟨b, hb⟩ : ∃ b, decide (0 < n) = b := ⟨_, rfl⟩
  have hb1 : decide ((0 : Int) < (n : Int)) = b := by rw [← hb]; congr 1; simp
  have hbi : (if 0 < n then (1 : Int) else 0) = if b = true then 1 else 0 := by rw [← hb]; by_cases h : 0 < n <;> simp [h]
  rw [hbi]
  clear hb hbi
  obtain ⟨B, hB⟩ : ∃ B, w.heap.size = B := ⟨_, rfl⟩
  have HBS := Aside0.mk hB
  clear hB
  go_enter Try.func60, Try.ntmps60
  go_upto_region 1 with fail
  generalize hW : World.alloc (World.alloc w _) _ = w1
  obtain ⟨⟨v1, v2⟩, b1, t1⟩ := HS.out w1 hW.symm
  have V1 := Aside0.mk v1
  have V2 := Aside0.mk v2
  have B1 := Aside0.mk b1
  have T1 := Aside0.mk t1
  clear v1 v2 b1 t1 hW HS
  have hBS := HBS.out
  rw [hBS] at T1 V1 V2 ⊢
  clear hBS
  obtain ⟨⟨c0, c1, c2, c3, c4⟩, r0, r1, r2, r3, r4⟩ := T1.out.cells
  obtain ⟨zb, zr⟩ := T1.out.frozen
  have HC := Aside0.mk T1.out.copy
  have HX := Aside0.mk (tx_copy (OnlyP.refl (TX B) w1) (.slice A len cap) (.int .i64 (came : Int)) (.slice Ar n cr) (.bool over) (.slice Ao out.length co))
  cases b <;> cases over <;> (
    first | have hb2 : ((0 : Int) < (n : Int)) = False := by (have := of_decide_eq_false hb1; simp; omega)
          | have hb2 : ((0 : Int) < (n : Int)) = True := by (have := of_decide_eq_true hb1; simp; omega)
    first | have hb3 : (0 < n) = False := by (have := of_decide_eq_false hb1; simp; omega)
          | have hb3 : (0 < n) = True := by (have := of_decide_eq_true hb1; simp; omega)
    clear hb1
    go_wp2_with fail
    refine bodyPost_ret (results_cell_row_tmp rfl _ _ (B + 1) 73 _ (0, 0) _ rfl HC.out Try.underlying73 rfl (by kernel_rfl)) rfl ?_
    refine ⟨_, rfl, ⟨Ar, cr, Ao, co, by rw [HN.out], (V1.out.tx HX.out).unxb, (V2.out.tx HX.out).unxb⟩, ?_⟩
    exact HX.out.below (fun k hk => by have := HBS.out; rcases hk with rfl | rfl <;> omega) B1.out)

set_option maxRecDepth 100000 in
set_option maxHeartbeats 1000000 in
theorem rwrite4_calls (w : World) (X : Nat → Prop) (A : Option Addr) (len cap came : Nat) (q : List Int) (over : Bool) (out : List Int) (v : Value) (x : Int) (h : VC w X A len cap v came q over out) :
    Calls Try.prog 61 #[v, .int .i64 4, .int .u32 x] w fun e w' => ∃ v', e = .returned v' ∧ VC w' X A len cap v' came q false out ∧ Below w.heap.size w w' := by
  obtain ⟨Ar, cr, Ao, co, rfl, hr, ho⟩ := h
  have HS := Aside0.mk (two_start w X A len cap came q over out hr ho)
  clear hr ho
  obtain ⟨B, hB⟩ : ∃ B, w.heap.size = B := ⟨_, rfl⟩
  have HBS := Aside0.mk hB
  clear hB
  go_enter Try.func61, Try.ntmps61
  go_upto_region 1 with fail
  generalize hW : World.alloc (World.alloc w _) _ = w1
  obtain ⟨⟨v1, v2⟩, b1, t1⟩ := HS.out w1 hW.symm
  have V1 := Aside0.mk v1
  have V2 := Aside0.mk v2
  have B1 := Aside0.mk b1
  have T1 := Aside0.mk t1
  clear v1 v2 b1 t1 hW HS
  have hBS := HBS.out
  rw [hBS] at T1 V1 V2 ⊢
  clear hBS
  obtain ⟨⟨c0, c1, c2, c3, c4⟩, r0, r1, r2, r3, r4⟩ := T1.out.cells
  obtain ⟨zb, zr⟩ := T1.out.frozen
  have T2 := Aside0.mk (T1.out.set3 (.bool false))
  have HC := Aside0.mk T2.out.copy
  have HX := Aside0.mk (tx_copy (tx_b (OnlyP.refl (TX B) w1) 3 (.bool false)) (.slice A len cap) (.int .i64 (came : Int)) (.slice Ar q.length cr) (.bool false) (.slice Ao out.length co))
  go_wp2_with fail
  refine bodyPost_ret (results_cell_row rfl _ _ (B + 1) 73 _ (0, 0) _ rfl HC.out Try.underlying73 rfl (by kernel_rfl)) rfl ?_
  refine ⟨_, rfl, ⟨Ar, cr, Ao, co, rfl, (V1.out.tx HX.out).unxb, (V2.out.tx HX.out).unxb⟩, ?_⟩
  exact HX.out.below (fun k hk => by have := HBS.out; rcases hk with rfl | rfl <;> omega) B1.out

theorem VR.news {w : World} {X : Nat → Prop} {A : Option Addr} {c : Nat} {q : List Int} (h : VR w X A c q) : (A = none ∧ c = 0 ∧ q = []) ∨ ∃ ad, A = some ad ∧ ∀ j u, (q.map (Value.int .u8))[j]? = some u → w.cell? (ad.add j) = some u := by
  rcases h with h | ⟨ad, rfl, _, _, hc⟩
  · exact .inl h
  · refine .inr ⟨ad, rfl, fun j u hu => ?_⟩
    rw [List.getElem?_map] at hu
    obtain ⟨p, hp, rfl⟩ := Option.map_eq_some_iff.1 hu
    exact hc j p hp

end Go.Proofs.Ytonfblfbmnepoaa
