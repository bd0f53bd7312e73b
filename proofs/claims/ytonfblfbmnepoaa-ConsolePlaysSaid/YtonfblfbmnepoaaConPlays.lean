/- The statement ConsolePlays. -/
import Derived.Test.YtonfblfbmnepoaaConSame
import Derived.Test.YtonfblfbmnepoaaConE
import Derived.Deep.LoopGhost
import Derived.BigQuiet
import Derived.Deep.RegionWith
namespace Go.Proofs.Ytonfblfbmnepoaa
open Go Go.RowKit Go.Deep Go.Proofs.YtonfblfbmnepoaaW.PrintWords
set_option linter.unusedVariables false
set_option linter.unusedSimpArgs false

/-- The three boxes of a step. -/
structure Box3 (w : World) (B : Nat) (a b c d e k r t x : Value) (z0 z1 z2 z3 z4 : Value) : Prop where
  b : w.heap[B]? = some (.cells #[a, b, c, d, e] 73 (0, 0))
  s : w.heap[B + 1]? = some (.cells #[k, r, t, x] 78 (0, 0))
  r : w.heap[B + 2]? = some (.cells #[z0, z1, z2, z3, z4] 73 (0, 0))
theorem box3_new (w : World) (a b c d e k r t x z0 z1 z2 z3 z4 : Value) : ∀ w1, w1 = (((w.alloc (.cells #[a, b, c, d, e] 73)).alloc (.cells #[k, r, t, x] 78)).alloc (.cells #[z0, z1, z2, z3, z4] 73)) → Box3 w1 w.heap.size a b c d e k r t x z0 z1 z2 z3 z4 ∧ Below w.heap.size w w1 := by
  rintro w1 rfl
  have h1 := blk_new w (.cells #[a, b, c, d, e] 73)
  have h2 := blk_new (w.alloc (.cells #[a, b, c, d, e] 73)) (.cells #[k, r, t, x] 78)
  have h3 := blk_new ((w.alloc (.cells #[a, b, c, d, e] 73)).alloc (.cells #[k, r, t, x] 78)) (.cells #[z0, z1, z2, z3, z4] 73)
  rw [World.size_alloc] at h2 h3
  rw [World.size_alloc] at h3
  have b2 := below_alloc (Below.refl _ (w.alloc (.cells #[a, b, c, d, e] 73))) (.cells #[k, r, t, x] 78)
  have b3 := below_alloc (Below.refl _ ((w.alloc (.cells #[a, b, c, d, e] 73)).alloc (.cells #[k, r, t, x] 78))) (.cells #[z0, z1, z2, z3, z4] 73)
  refine ⟨⟨blk_below (blk_below h1 b2) b3, blk_below h2 b3, h3⟩, below_alloc (below_alloc (below_alloc (Below.refl _ _) _) _) _⟩
theorem Box3.move {w w' : World} {B : Nat} {a b c d e k r t x z0 z1 z2 z3 z4 : Value} (h : Box3 w B a b c d e k r t x z0 z1 z2 z3 z4) {Y : Nat → Prop} (ho : OnlyP Y w w') (hY : ∀ i, Y i → i < B ∨ B + 3 ≤ i) : Box3 w' B a b c d e k r t x z0 z1 z2 z3 z4 := by
  have f : ∀ i, B ≤ i → i < B + 3 → i < w.heap.size → w'.heap[i]? = w.heap[i]? := fun i h1 h2 h3 => ho.block i h3 (fun hy => by have := hY i hy; omega)
  exact ⟨(f B (by omega) (by omega) (blk_lt h.b)).trans h.b, (f (B + 1) (by omega) (by omega) (blk_lt h.s)).trans h.s, (f (B + 2) (by omega) (by omega) (blk_lt h.r)).trans h.r⟩
theorem Box3.below {w w' : World} {B : Nat} {a b c d e k r t x z0 z1 z2 z3 z4 : Value} (h : Box3 w B a b c d e k r t x z0 z1 z2 z3 z4) (hb : Below w.heap.size w w') : Box3 w' B a b c d e k r t x z0 z1 z2 z3 z4 := ⟨blk_below h.b hb, blk_below h.s hb, blk_below h.r hb⟩
theorem Box3.cb {w : World} {B : Nat} {a b c d e k r t x z0 z1 z2 z3 z4 : Value} (h : Box3 w B a b c d e k r t x z0 z1 z2 z3 z4) : w.cell? ⟨B, 0, none⟩ = some a ∧ w.cell? ⟨B, 1, none⟩ = some b ∧ w.cell? ⟨B, 2, none⟩ = some c ∧ w.cell? ⟨B, 3, none⟩ = some d ∧ w.cell? ⟨B, 4, none⟩ = some e :=
  ⟨(blk_cell h.b 0).trans rfl, (blk_cell h.b 1).trans rfl, (blk_cell h.b 2).trans rfl, (blk_cell h.b 3).trans rfl, (blk_cell h.b 4).trans rfl⟩
theorem Box3.cs {w : World} {B : Nat} {a b c d e k r t x z0 z1 z2 z3 z4 : Value} (h : Box3 w B a b c d e k r t x z0 z1 z2 z3 z4) : w.cell? ⟨B + 1, 0, none⟩ = some k ∧ w.cell? ⟨B + 1, 1, none⟩ = some r ∧ w.cell? ⟨B + 1, 2, none⟩ = some t ∧ w.cell? ⟨B + 1, 3, none⟩ = some x :=
  ⟨(blk_cell h.s 0).trans rfl, (blk_cell h.s 1).trans rfl, (blk_cell h.s 2).trans rfl, (blk_cell h.s 3).trans rfl⟩
theorem Box3.cr {w : World} {B : Nat} {a b c d e k r t x z0 z1 z2 z3 z4 : Value} (h : Box3 w B a b c d e k r t x z0 z1 z2 z3 z4) : (w.cell? ⟨B + 2, 0, none⟩ = some z0 ∧ w.cell? ⟨B + 2, 1, none⟩ = some z1 ∧ w.cell? ⟨B + 2, 2, none⟩ = some z2 ∧ w.cell? ⟨B + 2, 3, none⟩ = some z3 ∧ w.cell? ⟨B + 2, 4, none⟩ = some z4) ∧ ∀ i, w.frozen? ⟨B + 2, i, none⟩ = false :=
  ⟨⟨(blk_cell h.r 0).trans rfl, (blk_cell h.r 1).trans rfl, (blk_cell h.r 2).trans rfl, (blk_cell h.r 3).trans rfl, (blk_cell h.r 4).trans rfl⟩, blk_frozen h.r⟩
/-- A whole console stored into block G. -/
def set5 (w : World) (G : Nat) (a b c d e : Value) : World := ((((w.setCell ⟨G, 0, none⟩ a).setCell ⟨G, 1, none⟩ b).setCell ⟨G, 2, none⟩ c).setCell ⟨G, 3, none⟩ d).setCell ⟨G, 4, none⟩ e
theorem set5_heap {w : World} {G : Nat} {z0 z1 z2 z3 z4 : Value} (h : w.heap[G]? = some (.cells #[z0, z1, z2, z3, z4] 73 (0, 0))) (a b c d e : Value) : (set5 w G a b c d e).heap[G]? = some (.cells #[a, b, c, d, e] 73 (0, 0)) :=
  blk_set (blk_set (blk_set (blk_set (blk_set h 0 a) 1 b) 2 c) 3 d) 4 e
theorem set5_only (w : World) (G : Nat) (a b c d e : Value) : Only G w (set5 w G a b c d e) := ((((((Only.refl G w).setCell 0 a).setCell 1 b).setCell 2 c).setCell 3 d).setCell 4 e)
/-- The document's console goes on beside a console. -/
def XG (X : Nat → Prop) (G : Nat) (k : Nat) : Prop := X k ∨ k = G
theorem VC.wide {w : World} {X Y : Nat → Prop} {A : Option Addr} {len cap : Nat} {v : Value} {came : Nat} {q : List Int} {over : Bool} {out : List Int} (h : VC w X A len cap v came q over out) (hY : ∀ k, Y k → X k ∨ w.heap.size ≤ k) : VC w Y A len cap v came q over out := by
  obtain ⟨Ar, cr, Ao, co, rfl, h1, h2⟩ := h
  exact ⟨Ar, cr, Ao, co, rfl, h1.wide hY, h2.wide hY⟩
theorem VC.move {w w' : World} {X : Nat → Prop} {A : Option Addr} {len cap : Nat} {v : Value} {came : Nat} {q : List Int} {over : Bool} {out : List Int} (h : VC w X A len cap v came q over out) (hm : ∀ k, k < w.heap.size → ¬ X k → w'.heap[k]? = w.heap[k]?) : VC w' X A len cap v came q over out := by
  obtain ⟨Ar, cr, Ao, co, rfl, h1, h2⟩ := h
  exact ⟨Ar, cr, Ao, co, rfl, h1.move hm, h2.move hm⟩
theorem VC.below {w w' : World} {X : Nat → Prop} {A : Option Addr} {len cap : Nat} {v : Value} {came : Nat} {q : List Int} {over : Bool} {out : List Int} (h : VC w X A len cap v came q over out) (hb : Below w.heap.size w w') : VC w' X A len cap v came q over out := h.move fun k hk _ => hb.block k hk

/-- What a step leaves. -/
def StepEnd (W w : World) (X : Nat → Prop) (C : Nat) (A : Option Addr) (cap : Nat) (al : List (Int × Int)) (no : Nat) (e : Ending) (w' : World) : Prop :=
  ∃ v' came' q' over' out' X', e = .returned (.tuple #[v', .bool true]) ∧ KC W w' X' C al came' q' over' out' ∧ VC w' X' A al.length cap v' came' q' over' out' ∧ out'.length ≤ no + 1 ∧ (∀ k, X' k → X k ∨ w.heap.size ≤ k) ∧ OnlyP X w w'

/-- Behind a store into a box of its own. -/
theorem step_fin {W w0 w : World} {X0 X : Nat → Prop} {C G : Nat} {A : Option Addr} {cap no : Nat} {al : List (Int × Int)} {came : Nat} {q : List Int} {over : Bool} {out : List Int} {a b c d e : Value} (hK : KC W w X C al came q over out) (hV : VC w (XG X G) A al.length cap (.agg #[a, b, c, d, e]) came q over out) (hG : W.heap.size ≤ G) (hX : ∀ k, X k → k ≠ G) (ho : out.length ≤ no + 1) (hO : OnlyP X0 w0 w) (hG0 : w0.heap.size ≤ G) (hg : ∀ k, X k → X0 k ∨ w0.heap.size ≤ k) :
    StepEnd W w0 X0 C A cap al no (.returned (.tuple #[.agg #[a, b, c, d, e], .bool true])) (set5 w G a b c d e) := by
  have h := set5_only w G a b c d e
  refine ⟨_, came, q, over, out, X, rfl, hK.move (Y := fun k => k = G) (.of_only h rfl) (fun i hi => hX i hi) (fun i hi => by omega), ?_, ho, hg, ?_⟩
  · exact (hV.move fun k hk hn => h.block k hk (fun e => hn (.inr e))).wide fun k hk => .inl (.inl hk)
  · exact ⟨h.os.trans hO.os, h.tape.trans hO.tape, h.output.trans hO.output, Nat.le_trans hO.size h.size, fun k hk hn => (h.block k (Nat.lt_of_lt_of_le hk hO.size) (by omega)).trans (hO.block k hk hn)⟩

set_option maxRecDepth 100000 in
set_option maxHeartbeats 4000000 in
theorem step1a (W w : World) (X : Nat → Prop) (C : Nat) (A : Option Addr) (cap came : Nat) (al : List (Int × Int)) (q : List Int) (over : Bool) (out : List Int) (v : Value) (k r t x : Int) (hK : KC W w X C al came q over out) (hA : AR W A al) (hll : al.length ≤ 256) (t0 : 0 ≤ t) (t1 : t < 18446744073709551616) (x0 : 0 ≤ x) (x1 : x < 4294967296) (hol : out.length ≤ 65000) (h : VC w X A al.length cap v came q over out) :
    Calls Try.prog 40 #[.pointer (some ⟨C, 0, none⟩), v, .agg #[.int .i64 1, .int .i64 0, .int .u64 t, .int .u32 x]] w (StepEnd W w X C A cap al out.length) := by
  obtain ⟨P, hP⟩ : ∃ P, P = StepEnd W w X C A cap al out.length := ⟨_, rfl⟩
  rw [← hP]
  have HP := Aside0.mk hP
  clear hP
  obtain ⟨Ar, cr, Ao, co, rfl, hr, ho⟩ := h
  have HV0 : VC w X A al.length cap (.agg #[.slice A al.length cap, .int .i64 (came : Int), .slice Ar q.length cr, .bool over, .slice Ao out.length co]) came q over out := ⟨Ar, cr, Ao, co, rfl, hr, ho⟩
  have HA := Aside0.mk hA
  have hq16 := hK.q16
  have hlc := hK.lc
  have HBX := Aside0.mk (box3_new w (.slice A al.length cap) (.int .i64 (came : Int)) (.slice Ar q.length cr) (.bool over) (.slice Ao out.length co) (.int .i64 1) (.int .i64 0) (.int .u64 t) (.int .u32 x) (.slice none 0 0) (.int .i64 0) (.slice none 0 0) (.bool false) (.slice none 0 0))
  obtain ⟨B, h0⟩ : ∃ B, w.heap.size = B := ⟨_, rfl⟩
  obtain ⟨D, h1⟩ : ∃ D, w.heap.size + 1 = D := ⟨_, rfl⟩
  obtain ⟨G, h2⟩ : ∃ G, w.heap.size + 1 + 1 = G := ⟨_, rfl⟩
  have hD : B + 1 = D := by omega
  have hG : B + 2 = G := by omega
  have HXB : Aside0 (∀ i, X i → i < B) := ⟨fun i hi => h0 ▸ hK.xlt i hi⟩
  have HWB : Aside0 (W.heap.size ≤ B) := ⟨h0 ▸ hK.bel.size⟩
  have HV1 := Aside0.mk (HV0.wide (Y := XG X G) (fun k hk => hk.imp id (fun e => by omega)))
  have HK := Aside0.mk hK
  have HS := Aside0.mk (And.intro h0 (And.intro h1 h2))
  clear hA hK hr ho HV0 h0 h1 h2
  go_enter Try.func40, Try.ntmps40
  go_upto_region 1 with fail
  generalize hW : World.alloc (World.alloc (World.alloc w _) _) _ = w1
  obtain ⟨t1', b1⟩ := HBX.out w1 hW.symm
  rw [HS.out.1] at t1'
  have T1 := Aside0.mk t1'
  have K1 := Aside0.mk (HK.out.below b1)
  have O1 := Aside0.mk (OnlyP.of_below (P := X) b1)
  have V1 := Aside0.mk (HV1.out.below b1)
  rw [HS.out.2.2, HS.out.2.1, HS.out.1]
  clear hW HBX HK HV1 b1 t1'
  have HDG := Aside0.mk (And.intro hD hG)
  clear hD hG
  obtain ⟨c0, c1, c2, c3, c4⟩ := T1.out.cb
  obtain ⟨s0, s1, s2, s3⟩ := T1.out.cs
  obtain ⟨⟨r0, r1, r2, r3, r4⟩, zr⟩ := T1.out.cr
  rw [HDG.out.1] at s0 s1 s2 s3
  rw [HDG.out.2] at r0 r1 r2 r3 r4 zr
  go_wp2_with fail
  refine (kc_up t t0 t1 K1.out).mono ?_
  rintro e w2 ⟨rfl, k2, o2⟩
  obtain ⟨R, hR⟩ : ∃ R, upL t (al.drop came) (came, q, over) = R := ⟨_, rfl⟩
  rw [hR] at k2
  obtain ⟨n', q', o'⟩ := R
  have K2 := Aside0.mk k2
  have T2 := Aside0.mk (T1.out.move o2 (fun i hi => .inl (HXB.out i hi)))
  have V2 := Aside0.mk (V1.out.move (fun k hk hn => o2.block k hk (fun hx => hn (.inl hx))))
  have O2 := Aside0.mk (O1.out.trans o2)
  have HU := rup_calls w2 (XG X G) (fun k hk => by rcases hk with h | h; exact K2.out.xlt k h; have := blk_lt T2.out.r; have := HDG.out.2; omega) A cap came al q over out _ t hll hlc (fun i p hp => by obtain ⟨y, hy, h1, h2⟩ := HA.out i p hp; exact ⟨y, hy, pw_cell_below K2.out.bel h1, pw_cell_below K2.out.bel h2⟩) V2.out hq16
  rw [hR] at HU
  have HU := Aside0.mk HU
  clear k2 o2 hR
  clear c0 c1 c2 c3 c4 s0 s1 s2 s3 r0 r1 r2 r3 r4 zr
  obtain ⟨c0, c1, c2, c3, c4⟩ := T2.out.cb
  obtain ⟨s0, s1, s2, s3⟩ := T2.out.cs
  obtain ⟨⟨r0, r1, r2, r3, r4⟩, zr⟩ := T2.out.cr
  rw [HDG.out.1] at s0 s1 s2 s3
  rw [HDG.out.2] at r0 r1 r2 r3 r4 zr
  go_wp2_with fail
  refine (HU.out).mono ?_
  rintro e w3 ⟨v', rfl, hv, hb⟩
  have V3 := Aside0.mk hv
  obtain ⟨Ar', cr', Ao', co', rfl, _, _⟩ := hv
  have K3 := Aside0.mk (K2.out.below hb)
  have T3 := Aside0.mk (T2.out.below hb)
  have O3 := Aside0.mk (O2.out.trans (.of_below hb))
  clear hb
  clear c0 c1 c2 c3 c4 s0 s1 s2 s3 r0 r1 r2 r3 r4 zr
  obtain ⟨c0, c1, c2, c3, c4⟩ := T3.out.cb
  obtain ⟨s0, s1, s2, s3⟩ := T3.out.cs
  obtain ⟨⟨r0, r1, r2, r3, r4⟩, zr⟩ := T3.out.cr
  rw [HDG.out.1] at s0 s1 s2 s3
  rw [HDG.out.2] at r0 r1 r2 r3 r4 zr
  go_wp2_with fail
  refine bodyPost_ret (results_cell_row_tmp rfl _ _ G 73 _ (0, 0) _ rfl (set5_heap (HDG.out.2 ▸ T3.out.r) _ _ _ _ _) Try.underlying73 rfl (by kernel_rfl)) rfl ?_
  rw [HP.out]
  exact step_fin K3.out V3.out (by have := HWB.out; have := HDG.out.2; omega) (fun i hi => by have := HXB.out i hi; have := HDG.out.2; omega) (by omega) O3.out (by have := HS.out.1; have := HDG.out.2; omega) (fun k hk => .inl hk)

set_option maxRecDepth 100000 in
set_option maxHeartbeats 4000000 in
theorem step1b (W w : World) (X : Nat → Prop) (C : Nat) (A : Option Addr) (cap came : Nat) (al : List (Int × Int)) (q : List Int) (over : Bool) (out : List Int) (v : Value) (k r t x : Int) (hK : KC W w X C al came q over out) (hA : AR W A al) (hll : al.length ≤ 256) (t0 : 0 ≤ t) (t1 : t < 18446744073709551616) (x0 : 0 ≤ x) (x1 : x < 4294967296) (hol : out.length ≤ 65000) (h : VC w X A al.length cap v came q over out) (hr0 : (r == 0) = false) (hr0' : (r = 0) = False) :
    Calls Try.prog 40 #[.pointer (some ⟨C, 0, none⟩), v, .agg #[.int .i64 1, .int .i64 r, .int .u64 t, .int .u32 x]] w (StepEnd W w X C A cap al out.length) := by
  obtain ⟨P, hP⟩ : ∃ P, P = StepEnd W w X C A cap al out.length := ⟨_, rfl⟩
  rw [← hP]
  have HP := Aside0.mk hP
  clear hP
  obtain ⟨Ar, cr, Ao, co, rfl, hr, ho⟩ := h
  have HV0 : VC w X A al.length cap (.agg #[.slice A al.length cap, .int .i64 (came : Int), .slice Ar q.length cr, .bool over, .slice Ao out.length co]) came q over out := ⟨Ar, cr, Ao, co, rfl, hr, ho⟩
  have HA := Aside0.mk hA
  have hq16 := hK.q16
  have hlc := hK.lc
  have HBX := Aside0.mk (box3_new w (.slice A al.length cap) (.int .i64 (came : Int)) (.slice Ar q.length cr) (.bool over) (.slice Ao out.length co) (.int .i64 1) (.int .i64 r) (.int .u64 t) (.int .u32 x) (.slice none 0 0) (.int .i64 0) (.slice none 0 0) (.bool false) (.slice none 0 0))
  obtain ⟨B, h0⟩ : ∃ B, w.heap.size = B := ⟨_, rfl⟩
  obtain ⟨D, h1⟩ : ∃ D, w.heap.size + 1 = D := ⟨_, rfl⟩
  obtain ⟨G, h2⟩ : ∃ G, w.heap.size + 1 + 1 = G := ⟨_, rfl⟩
  have hD : B + 1 = D := by omega
  have hG : B + 2 = G := by omega
  have HXB : Aside0 (∀ i, X i → i < B) := ⟨fun i hi => h0 ▸ hK.xlt i hi⟩
  have HWB : Aside0 (W.heap.size ≤ B) := ⟨h0 ▸ hK.bel.size⟩
  have HV1 := Aside0.mk (HV0.wide (Y := XG X G) (fun k hk => hk.imp id (fun e => by omega)))
  have HK := Aside0.mk hK
  have HS := Aside0.mk (And.intro h0 (And.intro h1 h2))
  clear hA hK hr ho HV0 h0 h1 h2
  go_enter Try.func40, Try.ntmps40
  go_upto_region 1 with fail
  generalize hW : World.alloc (World.alloc (World.alloc w _) _) _ = w1
  obtain ⟨t1', b1⟩ := HBX.out w1 hW.symm
  rw [HS.out.1] at t1'
  have T1 := Aside0.mk t1'
  have K1 := Aside0.mk (HK.out.below b1)
  have O1 := Aside0.mk (OnlyP.of_below (P := X) b1)
  have V1 := Aside0.mk (HV1.out.below b1)
  rw [HS.out.2.2, HS.out.2.1, HS.out.1]
  clear hW HBX HK HV1 b1 t1'
  have HDG := Aside0.mk (And.intro hD hG)
  clear hD hG
  obtain ⟨c0, c1, c2, c3, c4⟩ := T1.out.cb
  obtain ⟨s0, s1, s2, s3⟩ := T1.out.cs
  obtain ⟨⟨r0, r1, r2, r3, r4⟩, zr⟩ := T1.out.cr
  rw [HDG.out.1] at s0 s1 s2 s3
  rw [HDG.out.2] at r0 r1 r2 r3 r4 zr
  go_wp2_with fail
  refine (kc_up t t0 t1 K1.out).mono ?_
  rintro e w2 ⟨rfl, k2, o2⟩
  obtain ⟨R, hR⟩ : ∃ R, upL t (al.drop came) (came, q, over) = R := ⟨_, rfl⟩
  rw [hR] at k2
  obtain ⟨n', q', o'⟩ := R
  have K2 := Aside0.mk k2
  have T2 := Aside0.mk (T1.out.move o2 (fun i hi => .inl (HXB.out i hi)))
  have V2 := Aside0.mk (V1.out.move (fun k hk hn => o2.block k hk (fun hx => hn (.inl hx))))
  have O2 := Aside0.mk (O1.out.trans o2)
  have HU := rup_calls w2 (XG X G) (fun k hk => by rcases hk with h | h; exact K2.out.xlt k h; have := blk_lt T2.out.r; have := HDG.out.2; omega) A cap came al q over out _ t hll hlc (fun i p hp => by obtain ⟨y, hy, h1, h2⟩ := HA.out i p hp; exact ⟨y, hy, pw_cell_below K2.out.bel h1, pw_cell_below K2.out.bel h2⟩) V2.out hq16
  rw [hR] at HU
  have HU := Aside0.mk HU
  clear k2 o2 hR
  clear c0 c1 c2 c3 c4 s0 s1 s2 s3 r0 r1 r2 r3 r4 zr
  obtain ⟨c0, c1, c2, c3, c4⟩ := T2.out.cb
  obtain ⟨s0, s1, s2, s3⟩ := T2.out.cs
  obtain ⟨⟨r0, r1, r2, r3, r4⟩, zr⟩ := T2.out.cr
  rw [HDG.out.1] at s0 s1 s2 s3
  rw [HDG.out.2] at r0 r1 r2 r3 r4 zr
  go_wp2_with fail
  refine (HU.out).mono ?_
  rintro e w3 ⟨v', rfl, hv, hb⟩
  have V3 := Aside0.mk hv
  obtain ⟨Ar', cr', Ao', co', rfl, _, _⟩ := hv
  have K3 := Aside0.mk (K2.out.below hb)
  have T3 := Aside0.mk (T2.out.below hb)
  have O3 := Aside0.mk (O2.out.trans (.of_below hb))
  clear hb
  clear c0 c1 c2 c3 c4 s0 s1 s2 s3 r0 r1 r2 r3 r4 zr
  obtain ⟨c0, c1, c2, c3, c4⟩ := T3.out.cb
  obtain ⟨s0, s1, s2, s3⟩ := T3.out.cs
  obtain ⟨⟨r0, r1, r2, r3, r4⟩, zr⟩ := T3.out.cr
  rw [HDG.out.1] at s0 s1 s2 s3
  rw [HDG.out.2] at r0 r1 r2 r3 r4 zr
  go_wp2_with fail
  refine bodyPost_ret (results_cell_row_tmp rfl _ _ G 73 _ (0, 0) _ rfl (set5_heap (HDG.out.2 ▸ T3.out.r) _ _ _ _ _) Try.underlying73 rfl (by kernel_rfl)) rfl ?_
  rw [HP.out]
  exact step_fin K3.out V3.out (by have := HWB.out; have := HDG.out.2; omega) (fun i hi => by have := HXB.out i hi; have := HDG.out.2; omega) (by omega) O3.out (by have := HS.out.1; have := HDG.out.2; omega) (fun k hk => .inl hk)

set_option maxRecDepth 100000 in
set_option maxHeartbeats 4000000 in
theorem step2c (W w : World) (X : Nat → Prop) (C : Nat) (A : Option Addr) (cap came : Nat) (al : List (Int × Int)) (q : List Int) (over : Bool) (out : List Int) (v : Value) (k r t x : Int) (hK : KC W w X C al came q over out) (hA : AR W A al) (hll : al.length ≤ 256) (t0 : 0 ≤ t) (t1 : t < 18446744073709551616) (x0 : 0 ≤ x) (x1 : x < 4294967296) (hol : out.length ≤ 65000) (h : VC w X A al.length cap v came q over out) (hr0 : (r == 0) = false) (hr0' : (r = 0) = False) (hr4 : (r == 4) = false) (hr4' : (r = 4) = False) :
    Calls Try.prog 40 #[.pointer (some ⟨C, 0, none⟩), v, .agg #[.int .i64 2, .int .i64 r, .int .u64 t, .int .u32 x]] w (StepEnd W w X C A cap al out.length) := by
  obtain ⟨P, hP⟩ : ∃ P, P = StepEnd W w X C A cap al out.length := ⟨_, rfl⟩
  rw [← hP]
  have HP := Aside0.mk hP
  clear hP
  obtain ⟨Ar, cr, Ao, co, rfl, hr, ho⟩ := h
  have HV0 : VC w X A al.length cap (.agg #[.slice A al.length cap, .int .i64 (came : Int), .slice Ar q.length cr, .bool over, .slice Ao out.length co]) came q over out := ⟨Ar, cr, Ao, co, rfl, hr, ho⟩
  have HA := Aside0.mk hA
  have hq16 := hK.q16
  have hlc := hK.lc
  have HBX := Aside0.mk (box3_new w (.slice A al.length cap) (.int .i64 (came : Int)) (.slice Ar q.length cr) (.bool over) (.slice Ao out.length co) (.int .i64 2) (.int .i64 r) (.int .u64 t) (.int .u32 x) (.slice none 0 0) (.int .i64 0) (.slice none 0 0) (.bool false) (.slice none 0 0))
  obtain ⟨B, h0⟩ : ∃ B, w.heap.size = B := ⟨_, rfl⟩
  obtain ⟨D, h1⟩ : ∃ D, w.heap.size + 1 = D := ⟨_, rfl⟩
  obtain ⟨G, h2⟩ : ∃ G, w.heap.size + 1 + 1 = G := ⟨_, rfl⟩
  have hD : B + 1 = D := by omega
  have hG : B + 2 = G := by omega
  have HXB : Aside0 (∀ i, X i → i < B) := ⟨fun i hi => h0 ▸ hK.xlt i hi⟩
  have HWB : Aside0 (W.heap.size ≤ B) := ⟨h0 ▸ hK.bel.size⟩
  have HV1 := Aside0.mk (HV0.wide (Y := XG X G) (fun k hk => hk.imp id (fun e => by omega)))
  have HK := Aside0.mk hK
  have HS := Aside0.mk (And.intro h0 (And.intro h1 h2))
  clear hA hK hr ho HV0 h0 h1 h2
  go_enter Try.func40, Try.ntmps40
  go_upto_region 1 with fail
  generalize hW : World.alloc (World.alloc (World.alloc w _) _) _ = w1
  obtain ⟨t1', b1⟩ := HBX.out w1 hW.symm
  rw [HS.out.1] at t1'
  have T1 := Aside0.mk t1'
  have K1 := Aside0.mk (HK.out.below b1)
  have O1 := Aside0.mk (OnlyP.of_below (P := X) b1)
  have V1 := Aside0.mk (HV1.out.below b1)
  rw [HS.out.2.2, HS.out.2.1, HS.out.1]
  clear hW HBX HK HV1 b1 t1'
  have HDG := Aside0.mk (And.intro hD hG)
  clear hD hG
  obtain ⟨c0, c1, c2, c3, c4⟩ := T1.out.cb
  obtain ⟨s0, s1, s2, s3⟩ := T1.out.cs
  obtain ⟨⟨r0, r1, r2, r3, r4⟩, zr⟩ := T1.out.cr
  rw [HDG.out.1] at s0 s1 s2 s3
  rw [HDG.out.2] at r0 r1 r2 r3 r4 zr
  go_wp2_with fail
  refine (readx_calls _ C r hr0 hr4).mono ?_
  rintro e w2 ⟨rfl, d2⟩
  have K2 := Aside0.mk (K1.out.drawn d2)
  have T2 := Aside0.mk (T1.out.below d2.below)
  have V2 := Aside0.mk (V1.out.below d2.below)
  have O2 := Aside0.mk (O1.out.drawn d2)
  clear c0 c1 c2 c3 c4 s0 s1 s2 s3 r0 r1 r2 r3 r4 zr
  obtain ⟨c0, c1, c2, c3, c4⟩ := T2.out.cb
  obtain ⟨s0, s1, s2, s3⟩ := T2.out.cs
  obtain ⟨⟨r0, r1, r2, r3, r4⟩, zr⟩ := T2.out.cr
  rw [HDG.out.1] at s0 s1 s2 s3
  rw [HDG.out.2] at r0 r1 r2 r3 r4 zr
  go_wp2_with fail
  refine bodyPost_ret (results_cell_row_tmp rfl _ _ G 73 _ (0, 0) _ rfl (set5_heap (HDG.out.2 ▸ T2.out.r) (.slice A al.length cap) (.int .i64 (came : Int)) (.slice Ar q.length cr) (.bool over) (.slice Ao out.length co)) Try.underlying73 rfl (by kernel_rfl)) rfl ?_
  rw [HP.out]
  exact step_fin K2.out V2.out (by have := HWB.out; have := HDG.out.2; omega) (fun i hi => by have := HXB.out i hi; have := HDG.out.2; omega) (by omega) O2.out (by have := HS.out.1; have := HDG.out.2; omega) (fun k hk => .inl hk)

set_option maxRecDepth 100000 in
set_option maxHeartbeats 4000000 in
theorem step3a (W w : World) (X : Nat → Prop) (C : Nat) (A : Option Addr) (cap came : Nat) (al : List (Int × Int)) (q : List Int) (over : Bool) (out : List Int) (v : Value) (k r t x : Int) (hK : KC W w X C al came q over out) (hA : AR W A al) (hll : al.length ≤ 256) (t0 : 0 ≤ t) (t1 : t < 18446744073709551616) (x0 : 0 ≤ x) (x1 : x < 4294967296) (hol : out.length ≤ 65000) (h : VC w X A al.length cap v came q over out) :
    Calls Try.prog 40 #[.pointer (some ⟨C, 0, none⟩), v, .agg #[.int .i64 3, .int .i64 0, .int .u64 t, .int .u32 x]] w (StepEnd W w X C A cap al out.length) := by
  obtain ⟨P, hP⟩ : ∃ P, P = StepEnd W w X C A cap al out.length := ⟨_, rfl⟩
  rw [← hP]
  have HP := Aside0.mk hP
  clear hP
  obtain ⟨Ar, cr, Ao, co, rfl, hr, ho⟩ := h
  have HV0 : VC w X A al.length cap (.agg #[.slice A al.length cap, .int .i64 (came : Int), .slice Ar q.length cr, .bool over, .slice Ao out.length co]) came q over out := ⟨Ar, cr, Ao, co, rfl, hr, ho⟩
  have HA := Aside0.mk hA
  have hq16 := hK.q16
  have hlc := hK.lc
  have HBX := Aside0.mk (box3_new w (.slice A al.length cap) (.int .i64 (came : Int)) (.slice Ar q.length cr) (.bool over) (.slice Ao out.length co) (.int .i64 3) (.int .i64 0) (.int .u64 t) (.int .u32 x) (.slice none 0 0) (.int .i64 0) (.slice none 0 0) (.bool false) (.slice none 0 0))
  obtain ⟨B, h0⟩ : ∃ B, w.heap.size = B := ⟨_, rfl⟩
  obtain ⟨D, h1⟩ : ∃ D, w.heap.size + 1 = D := ⟨_, rfl⟩
  obtain ⟨G, h2⟩ : ∃ G, w.heap.size + 1 + 1 = G := ⟨_, rfl⟩
  have hD : B + 1 = D := by omega
  have hG : B + 2 = G := by omega
  have HXB : Aside0 (∀ i, X i → i < B) := ⟨fun i hi => h0 ▸ hK.xlt i hi⟩
  have HWB : Aside0 (W.heap.size ≤ B) := ⟨h0 ▸ hK.bel.size⟩
  have HV1 := Aside0.mk (HV0.wide (Y := XG X G) (fun k hk => hk.imp id (fun e => by omega)))
  have HK := Aside0.mk hK
  have HS := Aside0.mk (And.intro h0 (And.intro h1 h2))
  clear hA hK hr ho HV0 h0 h1 h2
  go_enter Try.func40, Try.ntmps40
  go_upto_region 1 with fail
  generalize hW : World.alloc (World.alloc (World.alloc w _) _) _ = w1
  obtain ⟨t1', b1⟩ := HBX.out w1 hW.symm
  rw [HS.out.1] at t1'
  have T1 := Aside0.mk t1'
  have K1 := Aside0.mk (HK.out.below b1)
  have O1 := Aside0.mk (OnlyP.of_below (P := X) b1)
  have V1 := Aside0.mk (HV1.out.below b1)
  rw [HS.out.2.2, HS.out.2.1, HS.out.1]
  clear hW HBX HK HV1 b1 t1'
  have HDG := Aside0.mk (And.intro hD hG)
  clear hD hG
  obtain ⟨c0, c1, c2, c3, c4⟩ := T1.out.cb
  obtain ⟨s0, s1, s2, s3⟩ := T1.out.cs
  obtain ⟨⟨r0, r1, r2, r3, r4⟩, zr⟩ := T1.out.cr
  rw [HDG.out.1] at s0 s1 s2 s3
  rw [HDG.out.2] at r0 r1 r2 r3 r4 zr
  go_wp2_with fail
  refine (kc_write0 x K1.out x0 x1 (by omega)).mono ?_
  rintro e w2 ⟨rfl, ⟨X', k2, hx1, hx2⟩, o2⟩
  have hsz : G < w1.heap.size := by have := blk_lt T1.out.r; have := HDG.out.2; omega
  have K2 := Aside0.mk k2
  have O2 := Aside0.mk (O1.out.trans o2)
  have HG2 : Aside0 (∀ k, X' k → X k ∨ w.heap.size ≤ k) := ⟨fun k hk => (hx2 k hk).imp id (fun h => by have := O1.out.size; omega)⟩
  have T2 := Aside0.mk (T1.out.move o2 (fun i hi => .inl (HXB.out i hi)))
  have V2 := Aside0.mk ((V1.out.wide (Y := XG X' G) (fun k hk => by rcases hk with h | h; exact (hx2 k h).imp .inl id; exact .inl (.inr h))).move (fun k hk hn => o2.block k hk (fun hx => hn (.inl (hx1 k hx)))))
  have HNE : Aside0 (∀ i, X' i → i ≠ G) := ⟨fun i hi => by rcases hx2 i hi with h | h; have := HXB.out i h; have := HDG.out.2; omega; omega⟩
  clear k2 o2 hx1 hx2 hsz
  clear c0 c1 c2 c3 c4 s0 s1 s2 s3 r0 r1 r2 r3 r4 zr
  have HU := Aside0.mk (rwrite0_calls w2 (XG X' G) (fun k hk => by rcases hk with h | h; exact K2.out.xlt k h; have := blk_lt T2.out.r; have := HDG.out.2; omega) A al.length cap came q over out _ x x0 x1 (by omega) V2.out)
  obtain ⟨c0, c1, c2, c3, c4⟩ := T2.out.cb
  obtain ⟨s0, s1, s2, s3⟩ := T2.out.cs
  obtain ⟨⟨r0, r1, r2, r3, r4⟩, zr⟩ := T2.out.cr
  rw [HDG.out.1] at s0 s1 s2 s3
  rw [HDG.out.2] at r0 r1 r2 r3 r4 zr
  go_wp2_with fail
  refine (HU.out).mono ?_
  rintro e w3 ⟨v', rfl, hv, hb⟩
  have V3 := Aside0.mk hv
  obtain ⟨Ar', cr', Ao', co', rfl, _, _⟩ := hv
  have K3 := Aside0.mk (K2.out.below hb)
  have T3 := Aside0.mk (T2.out.below hb)
  have O3 := Aside0.mk (O2.out.trans (.of_below hb))
  clear hb
  rw [show (out ++ [x % 256]).length = out.length + 1 from by simp] at V3
  clear c0 c1 c2 c3 c4 s0 s1 s2 s3 r0 r1 r2 r3 r4 zr
  obtain ⟨c0, c1, c2, c3, c4⟩ := T3.out.cb
  obtain ⟨s0, s1, s2, s3⟩ := T3.out.cs
  obtain ⟨⟨r0, r1, r2, r3, r4⟩, zr⟩ := T3.out.cr
  rw [HDG.out.1] at s0 s1 s2 s3
  rw [HDG.out.2] at r0 r1 r2 r3 r4 zr
  go_wp2_with fail
  refine bodyPost_ret (results_cell_row_tmp rfl _ _ G 73 _ (0, 0) _ rfl (set5_heap (HDG.out.2 ▸ T3.out.r) _ _ _ _ _) Try.underlying73 rfl (by kernel_rfl)) rfl ?_
  rw [HP.out]
  exact step_fin K3.out V3.out (by have := HWB.out; have := HDG.out.2; omega) HNE.out (by simp) O3.out (by have := HS.out.1; have := HDG.out.2; omega) HG2.out

set_option maxRecDepth 100000 in
set_option maxHeartbeats 4000000 in
theorem step3b (W w : World) (X : Nat → Prop) (C : Nat) (A : Option Addr) (cap came : Nat) (al : List (Int × Int)) (q : List Int) (over : Bool) (out : List Int) (v : Value) (k r t x : Int) (hK : KC W w X C al came q over out) (hA : AR W A al) (hll : al.length ≤ 256) (t0 : 0 ≤ t) (t1 : t < 18446744073709551616) (x0 : 0 ≤ x) (x1 : x < 4294967296) (hol : out.length ≤ 65000) (h : VC w X A al.length cap v came q over out) :
    Calls Try.prog 40 #[.pointer (some ⟨C, 0, none⟩), v, .agg #[.int .i64 3, .int .i64 4, .int .u64 t, .int .u32 x]] w (StepEnd W w X C A cap al out.length) := by
  obtain ⟨P, hP⟩ : ∃ P, P = StepEnd W w X C A cap al out.length := ⟨_, rfl⟩
  rw [← hP]
  have HP := Aside0.mk hP
  clear hP
  obtain ⟨Ar, cr, Ao, co, rfl, hr, ho⟩ := h
  have HV0 : VC w X A al.length cap (.agg #[.slice A al.length cap, .int .i64 (came : Int), .slice Ar q.length cr, .bool over, .slice Ao out.length co]) came q over out := ⟨Ar, cr, Ao, co, rfl, hr, ho⟩
  have HA := Aside0.mk hA
  have hq16 := hK.q16
  have hlc := hK.lc
  have HBX := Aside0.mk (box3_new w (.slice A al.length cap) (.int .i64 (came : Int)) (.slice Ar q.length cr) (.bool over) (.slice Ao out.length co) (.int .i64 3) (.int .i64 4) (.int .u64 t) (.int .u32 x) (.slice none 0 0) (.int .i64 0) (.slice none 0 0) (.bool false) (.slice none 0 0))
  obtain ⟨B, h0⟩ : ∃ B, w.heap.size = B := ⟨_, rfl⟩
  obtain ⟨D, h1⟩ : ∃ D, w.heap.size + 1 = D := ⟨_, rfl⟩
  obtain ⟨G, h2⟩ : ∃ G, w.heap.size + 1 + 1 = G := ⟨_, rfl⟩
  have hD : B + 1 = D := by omega
  have hG : B + 2 = G := by omega
  have HXB : Aside0 (∀ i, X i → i < B) := ⟨fun i hi => h0 ▸ hK.xlt i hi⟩
  have HWB : Aside0 (W.heap.size ≤ B) := ⟨h0 ▸ hK.bel.size⟩
  have HV1 := Aside0.mk (HV0.wide (Y := XG X G) (fun k hk => hk.imp id (fun e => by omega)))
  have HK := Aside0.mk hK
  have HS := Aside0.mk (And.intro h0 (And.intro h1 h2))
  clear hA hK hr ho HV0 h0 h1 h2
  go_enter Try.func40, Try.ntmps40
  go_upto_region 1 with fail
  generalize hW : World.alloc (World.alloc (World.alloc w _) _) _ = w1
  obtain ⟨t1', b1⟩ := HBX.out w1 hW.symm
  rw [HS.out.1] at t1'
  have T1 := Aside0.mk t1'
  have K1 := Aside0.mk (HK.out.below b1)
  have O1 := Aside0.mk (OnlyP.of_below (P := X) b1)
  have V1 := Aside0.mk (HV1.out.below b1)
  rw [HS.out.2.2, HS.out.2.1, HS.out.1]
  clear hW HBX HK HV1 b1 t1'
  have HDG := Aside0.mk (And.intro hD hG)
  clear hD hG
  obtain ⟨c0, c1, c2, c3, c4⟩ := T1.out.cb
  obtain ⟨s0, s1, s2, s3⟩ := T1.out.cs
  obtain ⟨⟨r0, r1, r2, r3, r4⟩, zr⟩ := T1.out.cr
  rw [HDG.out.1] at s0 s1 s2 s3
  rw [HDG.out.2] at r0 r1 r2 r3 r4 zr
  go_wp2_with fail
  refine (kc_write4 x K1.out).mono ?_
  rintro e w2 ⟨rfl, k2, o2⟩
  have K2 := Aside0.mk k2
  have T2 := Aside0.mk (T1.out.move o2 (fun i hi => .inl (HXB.out i hi)))
  have V2 := Aside0.mk (V1.out.move (fun k hk hn => o2.block k hk (fun hx => hn (.inl hx))))
  have O2 := Aside0.mk (O1.out.trans o2)
  clear k2 o2
  clear c0 c1 c2 c3 c4 s0 s1 s2 s3 r0 r1 r2 r3 r4 zr
  have HU := Aside0.mk (rwrite4_calls w2 (XG X G) A al.length cap came q over out _ x V2.out)
  obtain ⟨c0, c1, c2, c3, c4⟩ := T2.out.cb
  obtain ⟨s0, s1, s2, s3⟩ := T2.out.cs
  obtain ⟨⟨r0, r1, r2, r3, r4⟩, zr⟩ := T2.out.cr
  rw [HDG.out.1] at s0 s1 s2 s3
  rw [HDG.out.2] at r0 r1 r2 r3 r4 zr
  go_wp2_with fail
  refine (HU.out).mono ?_
  rintro e w3 ⟨v', rfl, hv, hb⟩
  have V3 := Aside0.mk hv
  obtain ⟨Ar', cr', Ao', co', rfl, _, _⟩ := hv
  have K3 := Aside0.mk (K2.out.below hb)
  have T3 := Aside0.mk (T2.out.below hb)
  have O3 := Aside0.mk (O2.out.trans (.of_below hb))
  clear hb
  clear c0 c1 c2 c3 c4 s0 s1 s2 s3 r0 r1 r2 r3 r4 zr
  obtain ⟨c0, c1, c2, c3, c4⟩ := T3.out.cb
  obtain ⟨s0, s1, s2, s3⟩ := T3.out.cs
  obtain ⟨⟨r0, r1, r2, r3, r4⟩, zr⟩ := T3.out.cr
  rw [HDG.out.1] at s0 s1 s2 s3
  rw [HDG.out.2] at r0 r1 r2 r3 r4 zr
  go_wp2_with fail
  refine bodyPost_ret (results_cell_row_tmp rfl _ _ G 73 _ (0, 0) _ rfl (set5_heap (HDG.out.2 ▸ T3.out.r) _ _ _ _ _) Try.underlying73 rfl (by kernel_rfl)) rfl ?_
  rw [HP.out]
  exact step_fin K3.out V3.out (by have := HWB.out; have := HDG.out.2; omega) (fun i hi => by have := HXB.out i hi; have := HDG.out.2; omega) (by omega) O3.out (by have := HS.out.1; have := HDG.out.2; omega) (fun k hk => .inl hk)

set_option maxRecDepth 100000 in
set_option maxHeartbeats 4000000 in
theorem step3c (W w : World) (X : Nat → Prop) (C : Nat) (A : Option Addr) (cap came : Nat) (al : List (Int × Int)) (q : List Int) (over : Bool) (out : List Int) (v : Value) (k r t x : Int) (hK : KC W w X C al came q over out) (hA : AR W A al) (hll : al.length ≤ 256) (t0 : 0 ≤ t) (t1 : t < 18446744073709551616) (x0 : 0 ≤ x) (x1 : x < 4294967296) (hol : out.length ≤ 65000) (h : VC w X A al.length cap v came q over out) (hr0 : (r == 0) = false) (hr0' : (r = 0) = False) (hr4 : (r == 4) = false) (hr4' : (r = 4) = False) :
    Calls Try.prog 40 #[.pointer (some ⟨C, 0, none⟩), v, .agg #[.int .i64 3, .int .i64 r, .int .u64 t, .int .u32 x]] w (StepEnd W w X C A cap al out.length) := by
  obtain ⟨P, hP⟩ : ∃ P, P = StepEnd W w X C A cap al out.length := ⟨_, rfl⟩
  rw [← hP]
  have HP := Aside0.mk hP
  clear hP
  obtain ⟨Ar, cr, Ao, co, rfl, hr, ho⟩ := h
  have HV0 : VC w X A al.length cap (.agg #[.slice A al.length cap, .int .i64 (came : Int), .slice Ar q.length cr, .bool over, .slice Ao out.length co]) came q over out := ⟨Ar, cr, Ao, co, rfl, hr, ho⟩
  have HA := Aside0.mk hA
  have hq16 := hK.q16
  have hlc := hK.lc
  have HBX := Aside0.mk (box3_new w (.slice A al.length cap) (.int .i64 (came : Int)) (.slice Ar q.length cr) (.bool over) (.slice Ao out.length co) (.int .i64 3) (.int .i64 r) (.int .u64 t) (.int .u32 x) (.slice none 0 0) (.int .i64 0) (.slice none 0 0) (.bool false) (.slice none 0 0))
  obtain ⟨B, h0⟩ : ∃ B, w.heap.size = B := ⟨_, rfl⟩
  obtain ⟨D, h1⟩ : ∃ D, w.heap.size + 1 = D := ⟨_, rfl⟩
  obtain ⟨G, h2⟩ : ∃ G, w.heap.size + 1 + 1 = G := ⟨_, rfl⟩
  have hD : B + 1 = D := by omega
  have hG : B + 2 = G := by omega
  have HXB : Aside0 (∀ i, X i → i < B) := ⟨fun i hi => h0 ▸ hK.xlt i hi⟩
  have HWB : Aside0 (W.heap.size ≤ B) := ⟨h0 ▸ hK.bel.size⟩
  have HV1 := Aside0.mk (HV0.wide (Y := XG X G) (fun k hk => hk.imp id (fun e => by omega)))
  have HK := Aside0.mk hK
  have HS := Aside0.mk (And.intro h0 (And.intro h1 h2))
  clear hA hK hr ho HV0 h0 h1 h2
  go_enter Try.func40, Try.ntmps40
  go_upto_region 1 with fail
  generalize hW : World.alloc (World.alloc (World.alloc w _) _) _ = w1
  obtain ⟨t1', b1⟩ := HBX.out w1 hW.symm
  rw [HS.out.1] at t1'
  have T1 := Aside0.mk t1'
  have K1 := Aside0.mk (HK.out.below b1)
  have O1 := Aside0.mk (OnlyP.of_below (P := X) b1)
  have V1 := Aside0.mk (HV1.out.below b1)
  rw [HS.out.2.2, HS.out.2.1, HS.out.1]
  clear hW HBX HK HV1 b1 t1'
  have HDG := Aside0.mk (And.intro hD hG)
  clear hD hG
  obtain ⟨c0, c1, c2, c3, c4⟩ := T1.out.cb
  obtain ⟨s0, s1, s2, s3⟩ := T1.out.cs
  obtain ⟨⟨r0, r1, r2, r3, r4⟩, zr⟩ := T1.out.cr
  rw [HDG.out.1] at s0 s1 s2 s3
  rw [HDG.out.2] at r0 r1 r2 r3 r4 zr
  go_wp2_with fail
  refine (writex_calls _ C r x hr0 hr4).mono ?_
  rintro e w2 ⟨rfl, d2⟩
  have K2 := Aside0.mk (K1.out.drawn d2)
  have T2 := Aside0.mk (T1.out.below d2.below)
  have V2 := Aside0.mk (V1.out.below d2.below)
  have O2 := Aside0.mk (O1.out.drawn d2)
  clear c0 c1 c2 c3 c4 s0 s1 s2 s3 r0 r1 r2 r3 r4 zr
  obtain ⟨c0, c1, c2, c3, c4⟩ := T2.out.cb
  obtain ⟨s0, s1, s2, s3⟩ := T2.out.cs
  obtain ⟨⟨r0, r1, r2, r3, r4⟩, zr⟩ := T2.out.cr
  rw [HDG.out.1] at s0 s1 s2 s3
  rw [HDG.out.2] at r0 r1 r2 r3 r4 zr
  go_wp2_with fail
  refine bodyPost_ret (results_cell_row_tmp rfl _ _ G 73 _ (0, 0) _ rfl (set5_heap (HDG.out.2 ▸ T2.out.r) (.slice A al.length cap) (.int .i64 (came : Int)) (.slice Ar q.length cr) (.bool over) (.slice Ao out.length co)) Try.underlying73 rfl (by kernel_rfl)) rfl ?_
  rw [HP.out]
  exact step_fin K2.out V2.out (by have := HWB.out; have := HDG.out.2; omega) (fun i hi => by have := HXB.out i hi; have := HDG.out.2; omega) (by omega) O2.out (by have := HS.out.1; have := HDG.out.2; omega) (fun k hk => .inl hk)

set_option maxRecDepth 100000 in
set_option maxHeartbeats 4000000 in
theorem step4a (W w : World) (X : Nat → Prop) (C : Nat) (A : Option Addr) (cap came : Nat) (al : List (Int × Int)) (q : List Int) (over : Bool) (out : List Int) (v : Value) (k r t x : Int) (hK : KC W w X C al came q over out) (hA : AR W A al) (hll : al.length ≤ 256) (t0 : 0 ≤ t) (t1 : t < 18446744073709551616) (x0 : 0 ≤ x) (x1 : x < 4294967296) (hol : out.length ≤ 65000) (h : VC w X A al.length cap v came q over out) (hk1 : (k == 1) = false) (hk1' : (k = 1) = False) (hk2 : (k == 2) = false) (hk2' : (k = 2) = False) (hk3 : (k == 3) = false) (hk3' : (k = 3) = False) :
    Calls Try.prog 40 #[.pointer (some ⟨C, 0, none⟩), v, .agg #[.int .i64 k, .int .i64 0, .int .u64 t, .int .u32 x]] w (StepEnd W w X C A cap al out.length) := by
  obtain ⟨P, hP⟩ : ∃ P, P = StepEnd W w X C A cap al out.length := ⟨_, rfl⟩
  rw [← hP]
  have HP := Aside0.mk hP
  clear hP
  obtain ⟨Ar, cr, Ao, co, rfl, hr, ho⟩ := h
  have HV0 : VC w X A al.length cap (.agg #[.slice A al.length cap, .int .i64 (came : Int), .slice Ar q.length cr, .bool over, .slice Ao out.length co]) came q over out := ⟨Ar, cr, Ao, co, rfl, hr, ho⟩
  have HA := Aside0.mk hA
  have hq16 := hK.q16
  have hlc := hK.lc
  have HBX := Aside0.mk (box3_new w (.slice A al.length cap) (.int .i64 (came : Int)) (.slice Ar q.length cr) (.bool over) (.slice Ao out.length co) (.int .i64 k) (.int .i64 0) (.int .u64 t) (.int .u32 x) (.slice none 0 0) (.int .i64 0) (.slice none 0 0) (.bool false) (.slice none 0 0))
  obtain ⟨B, h0⟩ : ∃ B, w.heap.size = B := ⟨_, rfl⟩
  obtain ⟨D, h1⟩ : ∃ D, w.heap.size + 1 = D := ⟨_, rfl⟩
  obtain ⟨G, h2⟩ : ∃ G, w.heap.size + 1 + 1 = G := ⟨_, rfl⟩
  have hD : B + 1 = D := by omega
  have hG : B + 2 = G := by omega
  have HXB : Aside0 (∀ i, X i → i < B) := ⟨fun i hi => h0 ▸ hK.xlt i hi⟩
  have HWB : Aside0 (W.heap.size ≤ B) := ⟨h0 ▸ hK.bel.size⟩
  have HV1 := Aside0.mk (HV0.wide (Y := XG X G) (fun k hk => hk.imp id (fun e => by omega)))
  have HK := Aside0.mk hK
  have HS := Aside0.mk (And.intro h0 (And.intro h1 h2))
  clear hA hK hr ho HV0 h0 h1 h2
  go_enter Try.func40, Try.ntmps40
  go_upto_region 1 with fail
  generalize hW : World.alloc (World.alloc (World.alloc w _) _) _ = w1
  obtain ⟨t1', b1⟩ := HBX.out w1 hW.symm
  rw [HS.out.1] at t1'
  have T1 := Aside0.mk t1'
  have K1 := Aside0.mk (HK.out.below b1)
  have O1 := Aside0.mk (OnlyP.of_below (P := X) b1)
  have V1 := Aside0.mk (HV1.out.below b1)
  rw [HS.out.2.2, HS.out.2.1, HS.out.1]
  clear hW HBX HK HV1 b1 t1'
  have HDG := Aside0.mk (And.intro hD hG)
  clear hD hG
  obtain ⟨c0, c1, c2, c3, c4⟩ := T1.out.cb
  obtain ⟨s0, s1, s2, s3⟩ := T1.out.cs
  obtain ⟨⟨r0, r1, r2, r3, r4⟩, zr⟩ := T1.out.cr
  rw [HDG.out.1] at s0 s1 s2 s3
  rw [HDG.out.2] at r0 r1 r2 r3 r4 zr
  go_wp2_with fail
  refine bodyPost_ret (results_cell_row_tmp rfl _ _ G 73 _ (0, 0) _ rfl (set5_heap (HDG.out.2 ▸ T1.out.r) (.slice A al.length cap) (.int .i64 (came : Int)) (.slice Ar q.length cr) (.bool over) (.slice Ao out.length co)) Try.underlying73 rfl (by kernel_rfl)) rfl ?_
  rw [HP.out]
  exact step_fin K1.out V1.out (by have := HWB.out; have := HDG.out.2; omega) (fun i hi => by have := HXB.out i hi; have := HDG.out.2; omega) (by omega) O1.out (by have := HS.out.1; have := HDG.out.2; omega) (fun k hk => .inl hk)

set_option maxRecDepth 100000 in
set_option maxHeartbeats 4000000 in
theorem step4b (W w : World) (X : Nat → Prop) (C : Nat) (A : Option Addr) (cap came : Nat) (al : List (Int × Int)) (q : List Int) (over : Bool) (out : List Int) (v : Value) (k r t x : Int) (hK : KC W w X C al came q over out) (hA : AR W A al) (hll : al.length ≤ 256) (t0 : 0 ≤ t) (t1 : t < 18446744073709551616) (x0 : 0 ≤ x) (x1 : x < 4294967296) (hol : out.length ≤ 65000) (h : VC w X A al.length cap v came q over out) (hr0 : (r == 0) = false) (hr0' : (r = 0) = False) (hk1 : (k == 1) = false) (hk1' : (k = 1) = False) (hk2 : (k == 2) = false) (hk2' : (k = 2) = False) (hk3 : (k == 3) = false) (hk3' : (k = 3) = False) :
    Calls Try.prog 40 #[.pointer (some ⟨C, 0, none⟩), v, .agg #[.int .i64 k, .int .i64 r, .int .u64 t, .int .u32 x]] w (StepEnd W w X C A cap al out.length) := by
  obtain ⟨P, hP⟩ : ∃ P, P = StepEnd W w X C A cap al out.length := ⟨_, rfl⟩
  rw [← hP]
  have HP := Aside0.mk hP
  clear hP
  obtain ⟨Ar, cr, Ao, co, rfl, hr, ho⟩ := h
  have HV0 : VC w X A al.length cap (.agg #[.slice A al.length cap, .int .i64 (came : Int), .slice Ar q.length cr, .bool over, .slice Ao out.length co]) came q over out := ⟨Ar, cr, Ao, co, rfl, hr, ho⟩
  have HA := Aside0.mk hA
  have hq16 := hK.q16
  have hlc := hK.lc
  have HBX := Aside0.mk (box3_new w (.slice A al.length cap) (.int .i64 (came : Int)) (.slice Ar q.length cr) (.bool over) (.slice Ao out.length co) (.int .i64 k) (.int .i64 r) (.int .u64 t) (.int .u32 x) (.slice none 0 0) (.int .i64 0) (.slice none 0 0) (.bool false) (.slice none 0 0))
  obtain ⟨B, h0⟩ : ∃ B, w.heap.size = B := ⟨_, rfl⟩
  obtain ⟨D, h1⟩ : ∃ D, w.heap.size + 1 = D := ⟨_, rfl⟩
  obtain ⟨G, h2⟩ : ∃ G, w.heap.size + 1 + 1 = G := ⟨_, rfl⟩
  have hD : B + 1 = D := by omega
  have hG : B + 2 = G := by omega
  have HXB : Aside0 (∀ i, X i → i < B) := ⟨fun i hi => h0 ▸ hK.xlt i hi⟩
  have HWB : Aside0 (W.heap.size ≤ B) := ⟨h0 ▸ hK.bel.size⟩
  have HV1 := Aside0.mk (HV0.wide (Y := XG X G) (fun k hk => hk.imp id (fun e => by omega)))
  have HK := Aside0.mk hK
  have HS := Aside0.mk (And.intro h0 (And.intro h1 h2))
  clear hA hK hr ho HV0 h0 h1 h2
  go_enter Try.func40, Try.ntmps40
  go_upto_region 1 with fail
  generalize hW : World.alloc (World.alloc (World.alloc w _) _) _ = w1
  obtain ⟨t1', b1⟩ := HBX.out w1 hW.symm
  rw [HS.out.1] at t1'
  have T1 := Aside0.mk t1'
  have K1 := Aside0.mk (HK.out.below b1)
  have O1 := Aside0.mk (OnlyP.of_below (P := X) b1)
  have V1 := Aside0.mk (HV1.out.below b1)
  rw [HS.out.2.2, HS.out.2.1, HS.out.1]
  clear hW HBX HK HV1 b1 t1'
  have HDG := Aside0.mk (And.intro hD hG)
  clear hD hG
  obtain ⟨c0, c1, c2, c3, c4⟩ := T1.out.cb
  obtain ⟨s0, s1, s2, s3⟩ := T1.out.cs
  obtain ⟨⟨r0, r1, r2, r3, r4⟩, zr⟩ := T1.out.cr
  rw [HDG.out.1] at s0 s1 s2 s3
  rw [HDG.out.2] at r0 r1 r2 r3 r4 zr
  go_wp2_with fail
  refine bodyPost_ret (results_cell_row_tmp rfl _ _ G 73 _ (0, 0) _ rfl (set5_heap (HDG.out.2 ▸ T1.out.r) (.slice A al.length cap) (.int .i64 (came : Int)) (.slice Ar q.length cr) (.bool over) (.slice Ao out.length co)) Try.underlying73 rfl (by kernel_rfl)) rfl ?_
  rw [HP.out]
  exact step_fin K1.out V1.out (by have := HWB.out; have := HDG.out.2; omega) (fun i hi => by have := HXB.out i hi; have := HDG.out.2; omega) (by omega) O1.out (by have := HS.out.1; have := HDG.out.2; omega) (fun k hk => .inl hk)

end Go.Proofs.Ytonfblfbmnepoaa

namespace Go.Proofs.Ytonfblfbmnepoaa
open Go Go.RowKit Go.Deep Go.Proofs.YtonfblfbmnepoaaW.PrintWords
set_option linter.unusedVariables false
set_option linter.unusedSimpArgs false

set_option maxRecDepth 100000 in
set_option maxHeartbeats 1000000 in
theorem step2a (W w : World) (X : Nat → Prop) (C : Nat) (A : Option Addr) (cap came : Nat) (al : List (Int × Int)) (q : List Int) (over : Bool) (out : List Int) (v : Value) (k r t x : Int) (hK : KC W w X C al came q over out) (hA : AR W A al) (hll : al.length ≤ 256) (t0 : 0 ≤ t) (t1 : t < 18446744073709551616) (x0 : 0 ≤ x) (x1 : x < 4294967296) (hol : out.length ≤ 65000) (h : VC w X A al.length cap v came q over out) :
    Calls Try.prog 40 #[.pointer (some ⟨C, 0, none⟩), v, .agg #[.int .i64 2, .int .i64 0, .int .u64 t, .int .u32 x]] w (StepEnd W w X C A cap al out.length) := by
  obtain ⟨P, hP⟩ : ∃ P, P = StepEnd W w X C A cap al out.length := ⟨_, rfl⟩
  rw [← hP]
  have HP := Aside0.mk hP
  clear hP
  obtain ⟨Ar, cr, Ao, co, rfl, hr, ho⟩ := h
  have HV0 : VC w X A al.length cap (.agg #[.slice A al.length cap, .int .i64 (came : Int), .slice Ar q.length cr, .bool over, .slice Ao out.length co]) came q over out := ⟨Ar, cr, Ao, co, rfl, hr, ho⟩
  have HA := Aside0.mk hA
  have hq16 := hK.q16
  have hlc := hK.lc
  have HBX := Aside0.mk (box3_new w (.slice A al.length cap) (.int .i64 (came : Int)) (.slice Ar q.length cr) (.bool over) (.slice Ao out.length co) (.int .i64 2) (.int .i64 0) (.int .u64 t) (.int .u32 x) (.slice none 0 0) (.int .i64 0) (.slice none 0 0) (.bool false) (.slice none 0 0))
  obtain ⟨B, h0⟩ : ∃ B, w.heap.size = B := ⟨_, rfl⟩
  obtain ⟨D, h1⟩ : ∃ D, w.heap.size + 1 = D := ⟨_, rfl⟩
  obtain ⟨G, h2⟩ : ∃ G, w.heap.size + 1 + 1 = G := ⟨_, rfl⟩
  have hD : B + 1 = D := by omega
  have hG : B + 2 = G := by omega
  have HXB : Aside0 (∀ i, X i → i < B) := ⟨fun i hi => h0 ▸ hK.xlt i hi⟩
  have HWB : Aside0 (W.heap.size ≤ B) := ⟨h0 ▸ hK.bel.size⟩
  have HV1 := Aside0.mk (HV0.wide (Y := XG X G) (fun k hk => hk.imp id (fun e => by omega)))
  have HK := Aside0.mk hK
  have HS := Aside0.mk (And.intro h0 (And.intro h1 h2))
  clear hA hK hr ho HV0 h0 h1 h2
  go_enter Try.func40, Try.ntmps40
  go_upto_region 1 with fail
  generalize hW : World.alloc (World.alloc (World.alloc w _) _) _ = w1
  obtain ⟨t1', b1⟩ := HBX.out w1 hW.symm
  rw [HS.out.1] at t1'
  have T1 := Aside0.mk t1'
  have K1 := Aside0.mk (HK.out.below b1)
  have O1 := Aside0.mk (OnlyP.of_below (P := X) b1)
  have V1 := Aside0.mk (HV1.out.below b1)
  rw [HS.out.2.2, HS.out.2.1, HS.out.1]
  clear hW HBX HK HV1 b1 t1'
  have HDG := Aside0.mk (And.intro hD hG)
  clear hD hG
  obtain ⟨c0, c1, c2, c3, c4⟩ := T1.out.cb
  obtain ⟨s0, s1, s2, s3⟩ := T1.out.cs
  obtain ⟨⟨r0, r1, r2, r3, r4⟩, zr⟩ := T1.out.cr
  rw [HDG.out.1] at s0 s1 s2 s3
  rw [HDG.out.2] at r0 r1 r2 r3 r4 zr
  obtain ⟨y, hy⟩ : ∃ y : Int, q.headD 0 = y := ⟨_, rfl⟩
  have HRD := kc_read0 K1.out
  rw [hy] at HRD
  obtain ⟨q2, hq2⟩ : ∃ q2, q.tail = q2 := ⟨_, rfl⟩
  rw [hq2] at HRD
  have HRD := Aside0.mk HRD
  have hw := Aside0.mk K1.out.q256
  go_wp2_with fail
  refine HRD.out.mono ?_
  rintro e w2 ⟨rfl, k2, o2⟩
  have K2 := Aside0.mk k2
  have T2 := Aside0.mk (T1.out.move o2 (fun i hi => .inl (HXB.out i hi)))
  have V2 := Aside0.mk (V1.out.move (fun k hk hn => o2.block k hk (fun hx => hn (.inl hx))))
  have O2 := Aside0.mk (O1.out.trans o2)
  clear k2 o2 HRD
  clear c0 c1 c2 c3 c4 s0 s1 s2 s3 r0 r1 r2 r3 r4 zr
  have HU := rread0_calls w2 (XG X G) A al.length cap came q over out _ V2.out hq16 hw.out
  rw [hy] at HU
  rw [hq2] at HU
  clear hq2
  have HU := Aside0.mk HU
  clear hy
  obtain ⟨c0, c1, c2, c3, c4⟩ := T2.out.cb
  obtain ⟨s0, s1, s2, s3⟩ := T2.out.cs
  obtain ⟨⟨r0, r1, r2, r3, r4⟩, zr⟩ := T2.out.cr
  rw [HDG.out.1] at s0 s1 s2 s3
  rw [HDG.out.2] at r0 r1 r2 r3 r4 zr
  go_wp2_with fail
  refine (HU.out).mono ?_
  rintro e w3 ⟨v', rfl, hv, hb⟩
  have V3 := Aside0.mk hv
  obtain ⟨Ar', cr', Ao', co', rfl, _, _⟩ := hv
  have K3 := Aside0.mk (K2.out.below hb)
  have T3 := Aside0.mk (T2.out.below hb)
  have O3 := Aside0.mk (O2.out.trans (.of_below hb))
  clear hb
  clear c0 c1 c2 c3 c4 s0 s1 s2 s3 r0 r1 r2 r3 r4 zr
  obtain ⟨E, hE⟩ : ∃ E, w3.heap.size = E := ⟨_, rfl⟩
  have hgl : G < E := by have := blk_lt T3.out.r; have := HDG.out.2; omega
  have hGE : ¬ G = E := by omega
  have hEG : ¬ E = G := by omega
  have B4 := below_alloc (Below.refl w3.heap.size w3) (.cells #[.slice A al.length cap, .int .i64 (came : Int), .slice Ar' q2.length cr', .bool over, .slice Ao' out.length co'] 73)
  have T4 := Aside0.mk (T3.out.below B4)
  have K4 := Aside0.mk (K3.out.below B4)
  have V4 := Aside0.mk (V3.out.below B4)
  have O4 := Aside0.mk (O3.out.trans (.of_below B4))
  have HEB := Aside0.mk (blk_new w3 (.cells #[.slice A al.length cap, .int .i64 (came : Int), .slice Ar' q2.length cr', .bool over, .slice Ao' out.length co'] 73))
  rw [hE] at HEB
  have HE := Aside0.mk hE
  clear B4
  obtain ⟨c0, c1, c2, c3, c4⟩ := T3.out.cb
  go_upto_region 11 with fail
  generalize w3.alloc (.cells #[.slice A al.length cap, .int .i64 (came : Int), .slice Ar' q2.length cr', .bool over, .slice Ao' out.length co'] 73) = w4 at K4 V4 T4 O4 HEB ⊢
  clear c0 c1 c2 c3 c4 hE hgl hGE hEG
  have e0 : w4.cell? ⟨E, 0, none⟩ = some (.slice A al.length cap) := (blk_cell HEB.out 0).trans rfl
  have e1 : w4.cell? ⟨E, 1, none⟩ = some (.int .i64 (came : Int)) := (blk_cell HEB.out 1).trans rfl
  have e2 : w4.cell? ⟨E, 2, none⟩ = some (.slice Ar' q2.length cr') := (blk_cell HEB.out 2).trans rfl
  have e3 : w4.cell? ⟨E, 3, none⟩ = some (.bool over) := (blk_cell HEB.out 3).trans rfl
  have e4 : w4.cell? ⟨E, 4, none⟩ = some (.slice Ao' out.length co') := (blk_cell HEB.out 4).trans rfl
  obtain ⟨⟨r0, r1, r2, r3, r4⟩, zr⟩ := T4.out.cr
  rw [HDG.out.2] at r0 r1 r2 r3 r4 zr
  go_wp2_with fail
  refine bodyPost_ret (results_cell_row_tmp rfl _ _ G 73 _ (0, 0) _ rfl (set5_heap (HDG.out.2 ▸ T4.out.r) (.slice A al.length cap) (.int .i64 (came : Int)) (.slice Ar' q2.length cr') (.bool over) (.slice Ao' out.length co')) Try.underlying73 rfl (by kernel_rfl)) rfl ?_
  rw [HP.out]
  exact step_fin K4.out V4.out (by have := HWB.out; have := HDG.out.2; omega) (fun i hi => by have := HXB.out i hi; have := HDG.out.2; omega) (by omega) O4.out (by have := HS.out.1; have := HDG.out.2; omega) (fun k hk => .inl hk)

set_option maxRecDepth 100000 in
set_option maxHeartbeats 1000000 in
theorem step2b (W w : World) (X : Nat → Prop) (C : Nat) (A : Option Addr) (cap came : Nat) (al : List (Int × Int)) (q : List Int) (over : Bool) (out : List Int) (v : Value) (k r t x : Int) (hK : KC W w X C al came q over out) (hA : AR W A al) (hll : al.length ≤ 256) (t0 : 0 ≤ t) (t1 : t < 18446744073709551616) (x0 : 0 ≤ x) (x1 : x < 4294967296) (hol : out.length ≤ 65000) (h : VC w X A al.length cap v came q over out) :
    Calls Try.prog 40 #[.pointer (some ⟨C, 0, none⟩), v, .agg #[.int .i64 2, .int .i64 4, .int .u64 t, .int .u32 x]] w (StepEnd W w X C A cap al out.length) := by
  obtain ⟨P, hP⟩ : ∃ P, P = StepEnd W w X C A cap al out.length := ⟨_, rfl⟩
  rw [← hP]
  have HP := Aside0.mk hP
  clear hP
  obtain ⟨Ar, cr, Ao, co, rfl, hr, ho⟩ := h
  have HV0 : VC w X A al.length cap (.agg #[.slice A al.length cap, .int .i64 (came : Int), .slice Ar q.length cr, .bool over, .slice Ao out.length co]) came q over out := ⟨Ar, cr, Ao, co, rfl, hr, ho⟩
  have HA := Aside0.mk hA
  have hq16 := hK.q16
  have hlc := hK.lc
  have HBX := Aside0.mk (box3_new w (.slice A al.length cap) (.int .i64 (came : Int)) (.slice Ar q.length cr) (.bool over) (.slice Ao out.length co) (.int .i64 2) (.int .i64 4) (.int .u64 t) (.int .u32 x) (.slice none 0 0) (.int .i64 0) (.slice none 0 0) (.bool false) (.slice none 0 0))
  obtain ⟨B, h0⟩ : ∃ B, w.heap.size = B := ⟨_, rfl⟩
  obtain ⟨D, h1⟩ : ∃ D, w.heap.size + 1 = D := ⟨_, rfl⟩
  obtain ⟨G, h2⟩ : ∃ G, w.heap.size + 1 + 1 = G := ⟨_, rfl⟩
  have hD : B + 1 = D := by omega
  have hG : B + 2 = G := by omega
  have HXB : Aside0 (∀ i, X i → i < B) := ⟨fun i hi => h0 ▸ hK.xlt i hi⟩
  have HWB : Aside0 (W.heap.size ≤ B) := ⟨h0 ▸ hK.bel.size⟩
  have HV1 := Aside0.mk (HV0.wide (Y := XG X G) (fun k hk => hk.imp id (fun e => by omega)))
  have HK := Aside0.mk hK
  have HS := Aside0.mk (And.intro h0 (And.intro h1 h2))
  clear hA hK hr ho HV0 h0 h1 h2
  go_enter Try.func40, Try.ntmps40
  go_upto_region 1 with fail
  generalize hW : World.alloc (World.alloc (World.alloc w _) _) _ = w1
  obtain ⟨t1', b1⟩ := HBX.out w1 hW.symm
  rw [HS.out.1] at t1'
  have T1 := Aside0.mk t1'
  have K1 := Aside0.mk (HK.out.below b1)
  have O1 := Aside0.mk (OnlyP.of_below (P := X) b1)
  have V1 := Aside0.mk (HV1.out.below b1)
  rw [HS.out.2.2, HS.out.2.1, HS.out.1]
  clear hW HBX HK HV1 b1 t1'
  have HDG := Aside0.mk (And.intro hD hG)
  clear hD hG
  obtain ⟨c0, c1, c2, c3, c4⟩ := T1.out.cb
  obtain ⟨s0, s1, s2, s3⟩ := T1.out.cs
  obtain ⟨⟨r0, r1, r2, r3, r4⟩, zr⟩ := T1.out.cr
  rw [HDG.out.1] at s0 s1 s2 s3
  rw [HDG.out.2] at r0 r1 r2 r3 r4 zr
  obtain ⟨y, hy⟩ : ∃ y : Int, ((if 0 < q.length then 1 else 0) + (if over = true then 2 else 0)) = y := ⟨_, rfl⟩
  have HRD := kc_read4 K1.out
  rw [hy] at HRD
  have HRD := Aside0.mk HRD
  have hw := Aside0.mk K1.out.q256
  go_wp2_with fail
  refine HRD.out.mono ?_
  rintro e w2 ⟨rfl, d2⟩
  have K2 := Aside0.mk (K1.out.drawn d2)
  have T2 := Aside0.mk (T1.out.below d2.below)
  have V2 := Aside0.mk (V1.out.below d2.below)
  have O2 := Aside0.mk (O1.out.drawn d2)
  clear d2 HRD
  clear c0 c1 c2 c3 c4 s0 s1 s2 s3 r0 r1 r2 r3 r4 zr
  have HU := rread4_calls w2 (XG X G) A al.length cap came q over out _ V2.out hq16
  rw [hy] at HU
  have HU := Aside0.mk HU
  clear hy
  obtain ⟨c0, c1, c2, c3, c4⟩ := T2.out.cb
  obtain ⟨s0, s1, s2, s3⟩ := T2.out.cs
  obtain ⟨⟨r0, r1, r2, r3, r4⟩, zr⟩ := T2.out.cr
  rw [HDG.out.1] at s0 s1 s2 s3
  rw [HDG.out.2] at r0 r1 r2 r3 r4 zr
  go_wp2_with fail
  refine (HU.out).mono ?_
  rintro e w3 ⟨v', rfl, hv, hb⟩
  have V3 := Aside0.mk hv
  obtain ⟨Ar', cr', Ao', co', rfl, _, _⟩ := hv
  have K3 := Aside0.mk (K2.out.below hb)
  have T3 := Aside0.mk (T2.out.below hb)
  have O3 := Aside0.mk (O2.out.trans (.of_below hb))
  clear hb
  clear c0 c1 c2 c3 c4 s0 s1 s2 s3 r0 r1 r2 r3 r4 zr
  obtain ⟨E, hE⟩ : ∃ E, w3.heap.size = E := ⟨_, rfl⟩
  have hgl : G < E := by have := blk_lt T3.out.r; have := HDG.out.2; omega
  have hGE : ¬ G = E := by omega
  have hEG : ¬ E = G := by omega
  have B4 := below_alloc (Below.refl w3.heap.size w3) (.cells #[.slice A al.length cap, .int .i64 (came : Int), .slice Ar' q.length cr', .bool over, .slice Ao' out.length co'] 73)
  have T4 := Aside0.mk (T3.out.below B4)
  have K4 := Aside0.mk (K3.out.below B4)
  have V4 := Aside0.mk (V3.out.below B4)
  have O4 := Aside0.mk (O3.out.trans (.of_below B4))
  have HEB := Aside0.mk (blk_new w3 (.cells #[.slice A al.length cap, .int .i64 (came : Int), .slice Ar' q.length cr', .bool over, .slice Ao' out.length co'] 73))
  rw [hE] at HEB
  have HE := Aside0.mk hE
  clear B4
  obtain ⟨c0, c1, c2, c3, c4⟩ := T3.out.cb
  go_upto_region 11 with fail
  generalize w3.alloc (.cells #[.slice A al.length cap, .int .i64 (came : Int), .slice Ar' q.length cr', .bool over, .slice Ao' out.length co'] 73) = w4 at K4 V4 T4 O4 HEB ⊢
  clear c0 c1 c2 c3 c4 hE hgl hGE hEG
  have e0 : w4.cell? ⟨E, 0, none⟩ = some (.slice A al.length cap) := (blk_cell HEB.out 0).trans rfl
  have e1 : w4.cell? ⟨E, 1, none⟩ = some (.int .i64 (came : Int)) := (blk_cell HEB.out 1).trans rfl
  have e2 : w4.cell? ⟨E, 2, none⟩ = some (.slice Ar' q.length cr') := (blk_cell HEB.out 2).trans rfl
  have e3 : w4.cell? ⟨E, 3, none⟩ = some (.bool over) := (blk_cell HEB.out 3).trans rfl
  have e4 : w4.cell? ⟨E, 4, none⟩ = some (.slice Ao' out.length co') := (blk_cell HEB.out 4).trans rfl
  obtain ⟨⟨r0, r1, r2, r3, r4⟩, zr⟩ := T4.out.cr
  rw [HDG.out.2] at r0 r1 r2 r3 r4 zr
  go_wp2_with fail
  refine bodyPost_ret (results_cell_row_tmp rfl _ _ G 73 _ (0, 0) _ rfl (set5_heap (HDG.out.2 ▸ T4.out.r) (.slice A al.length cap) (.int .i64 (came : Int)) (.slice Ar' q.length cr') (.bool over) (.slice Ao' out.length co')) Try.underlying73 rfl (by kernel_rfl)) rfl ?_
  rw [HP.out]
  exact step_fin K4.out V4.out (by have := HWB.out; have := HDG.out.2; omega) (fun i hi => by have := HXB.out i hi; have := HDG.out.2; omega) (by omega) O4.out (by have := HS.out.1; have := HDG.out.2; omega) (fun k hk => .inl hk)

end Go.Proofs.Ytonfblfbmnepoaa

namespace Go.Proofs.Ytonfblfbmnepoaa
open Go Go.RowKit Go.Proofs.YtonfblfbmnepoaaW.PrintWords Go.Proofs.Ytonfblfbmnepoaa.FifoPlain
set_option linter.unusedVariables false
set_option linter.unusedSimpArgs false

set_option maxRecDepth 100000 in
set_option maxHeartbeats 2000000 in
theorem cnew_bad (w : World) (A : Option Addr) (cl : Nat) (al : List (Int × Int)) (hA : AR w A al) (ll : al.length ≤ 256) (j : Nat) (a b : Int × Int) (hj : al[j]? = some a) (hj1 : al[j + 1]? = some b) (hlt0 : b.1 < a.1) (hs : ∀ i p p', i < j → al[i]? = some p → al[i + 1]? = some p' → p.1 ≤ p'.1) :
    Calls Try.prog 31 #[.slice A al.length cl] w fun e w' => e = .returned (.tuple #[.pointer none, .int .i64 1]) ∧ Drawn0 w w' := by
  have HA := Aside0.mk hA
  have HS := Aside0.mk hs
  have HJ := Aside0.mk (And.intro hj (And.intro hj1 hlt0))
  have hjn : j + 1 < al.length := (List.getElem?_eq_some_iff.1 hj1).1
  clear hA hs hj hj1 hlt0
  obtain ⟨W0, hW0⟩ : ∃ W0, w = W0 := ⟨_, rfl⟩
  obtain ⟨n, hal⟩ : ∃ n, al.length = n := ⟨_, rfl⟩
  have HL := Aside0.mk hal
  rw [hal] at ll hjn ⊢
  clear hal
  have hl : ((256 : Int) < (n : Int)) = False := by simp; omega
  have HD : Aside0 (Drawn0 W0 w) := ⟨hW0 ▸ Drawn0.refl _⟩
  have HA : Aside0 (AR W0 A al) := ⟨hW0 ▸ HA.out⟩
  rw [hW0]
  rw [hW0] at HD
  clear hW0
  go_enter Try.func31, Try.ntmps31
  go_wp2_with fail
  go_loopg [10] n (fun g i wr => ∃ k : Nat, g + k = n ∧ k ≤ j + 1 ∧ i = .int .i64 (k : Int) ∧ Aside0 (Drawn0 W0 wr))
  case atStart => exact ⟨0, rfl, by omega, rfl, HD⟩
  case round =>
    obtain ⟨k, hk, hkj, rfl, hd⟩ := hrel
    obtain ⟨wo, rfl⟩ : ∃ wo : World, wo = wr := ⟨_, rfl⟩
    have hlt : k < n := by omega
    · have hlt' : ((k : Int) < (n : Int)) = True := by simp; omega
      cases k with
      | zero =>
        go_wp2_with fail
        go_quiet (fail)
        have D1 := Aside0.mk (drawn_on hd.out nq)
        go_wp2_with fail
        go_roundg (gk - 1)
        case measure => omega
        case rel => exact ⟨1, by omega, by omega, by congr 1, D1⟩
      | succ k =>
        have hk1 : k + 1 < al.length := by rw [HL.out]; exact hlt
        have hp := List.getElem?_eq_getElem hk1
        have hp' := List.getElem?_eq_getElem (show k < al.length by omega)
        obtain ⟨x, hx, r1, _⟩ := HA.out _ _ hp
        obtain ⟨x', hx', r2, _⟩ := HA.out _ _ hp'
        rw [hx] at hx'
        cases hx'
        subst hx
        by_cases hkj' : k = j
        · subst hkj'
          have hle : al[k + 1].1 < al[k].1 := by
            obtain ⟨g1, g2, g3⟩ := HJ.out
            rw [hp'] at g1
            rw [hp] at g2
            cases g1; cases g2
            exact g3
          generalize al[k + 1].1 = t1 at r1 hle
          generalize al[k].1 = t0 at r2 hle
          have hd1 : decide (t1 < t0) = true := decide_eq_true hle
          have c1 : ∀ n, (wo.drewN n).cell? (x.add ((k + 1) * 2)) = some (.int .u64 t1) := fun n => pw_cell_below (drawn_on hd.out n).below r1
          have c0 : ∀ n, (wo.drewN n).cell? (x.add (k * 2)) = some (.int .u64 t0) := fun n => pw_cell_below (drawn_on hd.out n).below r2
          have q1 : wo.cell? (x.add ((k + 1) * 2)) = some (.int .u64 t1) := c1 0
          have q0 : wo.cell? (x.add (k * 2)) = some (.int .u64 t0) := c0 0
          clear hle hp hp' r1 r2
          have hg : decide ((0 : Int) < ((k + 1 : Nat) : Int)) = true := decide_eq_true (by omega)
          go_wp2_with fail
          go_quiet (fail)
          have D1 := Aside0.mk (drawn_on hd.out nq)
          go_wp2_with fail
          go_ret2
          exact ⟨rfl, D1.out⟩
        · have hkj2 : k < j := by omega
          have hle := HS.out k _ _ hkj2 hp' hp
          generalize al[k + 1].1 = t1 at r1 hle
          generalize al[k].1 = t0 at r2 hle
          have hd1 : decide (t1 < t0) = false := decide_eq_false (by omega)
          have c1 : ∀ n, (wo.drewN n).cell? (x.add ((k + 1) * 2)) = some (.int .u64 t1) := fun n => pw_cell_below (drawn_on hd.out n).below r1
          have c0 : ∀ n, (wo.drewN n).cell? (x.add (k * 2)) = some (.int .u64 t0) := fun n => pw_cell_below (drawn_on hd.out n).below r2
          have q1 : wo.cell? (x.add ((k + 1) * 2)) = some (.int .u64 t1) := c1 0
          have q0 : wo.cell? (x.add (k * 2)) = some (.int .u64 t0) := c0 0
          clear hle hp hp' r1 r2
          have hg : decide ((0 : Int) < ((k + 1 : Nat) : Int)) = true := decide_eq_true (by omega)
          go_wp2_with fail
          go_quiet (fail)
          have D1 := Aside0.mk (drawn_on hd.out nq)
          go_wp2_with fail
          go_roundg (gk - 1)
          case measure => omega
          case rel => exact ⟨k + 2, by omega, by omega, by congr 1, D1⟩
end Go.Proofs.Ytonfblfbmnepoaa

namespace Go.Proofs.Ytonfblfbmnepoaa
open Go Go.RowKit Go.Deep Go.Proofs.YtonfblfbmnepoaaW.PrintWords
set_option linter.unusedVariables false
set_option linter.unusedSimpArgs false

theorem step_calls (W w : World) (X : Nat → Prop) (C : Nat) (A : Option Addr) (cap came : Nat) (al : List (Int × Int)) (q : List Int) (over : Bool) (out : List Int) (v : Value) (k r t x : Int) (hK : KC W w X C al came q over out) (hA : AR W A al) (hll : al.length ≤ 256) (t0 : 0 ≤ t) (t1 : t < 18446744073709551616) (x0 : 0 ≤ x) (x1 : x < 4294967296) (hol : out.length ≤ 65000) (h : VC w X A al.length cap v came q over out) :
    Calls Try.prog 40 #[.pointer (some ⟨C, 0, none⟩), v, .agg #[.int .i64 k, .int .i64 r, .int .u64 t, .int .u32 x]] w (StepEnd W w X C A cap al out.length) := by
  have f : ∀ {a b : Int}, ¬ a = b → (a == b) = false ∧ (a = b) = False := fun h => ⟨beq_eq_false_iff_ne.2 h, eq_false h⟩
  by_cases k1 : k = 1
  · subst k1
    by_cases r0 : r = 0
    · subst r0; exact step1a W w X C A cap came al q over out v 0 0 t x hK hA hll t0 t1 x0 x1 hol h
    · exact step1b W w X C A cap came al q over out v 0 r t x hK hA hll t0 t1 x0 x1 hol h (f r0).1 (f r0).2
  · by_cases k2 : k = 2
    · subst k2
      by_cases r0 : r = 0
      · subst r0; exact step2a W w X C A cap came al q over out v 0 0 t x hK hA hll t0 t1 x0 x1 hol h
      · by_cases r4 : r = 4
        · subst r4; exact step2b W w X C A cap came al q over out v 0 0 t x hK hA hll t0 t1 x0 x1 hol h
        · exact step2c W w X C A cap came al q over out v 0 r t x hK hA hll t0 t1 x0 x1 hol h (f r0).1 (f r0).2 (f r4).1 (f r4).2
    · by_cases k3 : k = 3
      · subst k3
        by_cases r0 : r = 0
        · subst r0; exact step3a W w X C A cap came al q over out v 0 0 t x hK hA hll t0 t1 x0 x1 hol h
        · by_cases r4 : r = 4
          · subst r4; exact step3b W w X C A cap came al q over out v 0 0 t x hK hA hll t0 t1 x0 x1 hol h
          · exact step3c W w X C A cap came al q over out v 0 r t x hK hA hll t0 t1 x0 x1 hol h (f r0).1 (f r0).2 (f r4).1 (f r4).2
      · by_cases r0 : r = 0
        · subst r0; exact step4a W w X C A cap came al q over out v k 0 t x hK hA hll t0 t1 x0 x1 hol h (f k1).1 (f k1).2 (f k2).1 (f k2).2 (f k3).1 (f k3).2
        · exact step4b W w X C A cap came al q over out v k r t x hK hA hll t0 t1 x0 x1 hol h (f r0).1 (f r0).2 (f k1).1 (f k1).2 (f k2).1 (f k2).2 (f k3).1 (f k3).2

theorem right12_uniq {len : Nat} {f : Nat → Nat → Int} {r r' : Int} (h : Right12 len f r) (h' : Right12 len f r') : r = r' := by
  rcases h with ⟨rfl, h1, h2⟩ | ⟨rfl, h1, j, h2, h3, h4⟩ | ⟨rfl, h1⟩ <;> rcases h' with ⟨rfl, k1, k2⟩ | ⟨rfl, k1, j', k2, k3, k4⟩ | ⟨rfl, k1⟩ <;> first | rfl | omega | skip
  · have := h2 j' _ _ k2 (arrs_at (by omega)) (arrs_at k2)
    simp at this; omega
  · have := k2 j _ _ h2 (arrs_at (by omega)) (arrs_at h2)
    simp at this; omega

theorem VR.apart {w : World} {X : Nat → Prop} {A : Option Addr} {c B : Nat} {q : List Int} {cs : Array Value} {t : TypeId} {fr : Nat × Nat} (h : VR w X A c q) (hb : w.heap[B]? = some (.cells cs t fr)) (hn : ∀ (i : Nat) (x : Int), cs[i]? ≠ some (.int .u8 x)) : VR w (XG X B) A c q := by
  rcases h with h | ⟨ad, rfl, hl, hX, hc⟩
  · exact .inl h
  · refine .inr ⟨ad, rfl, hl, fun hq hy => ?_, hc⟩
    rcases hy with hy | hy
    · exact hX hq hy
    · obtain ⟨x, q', rfl⟩ := List.exists_cons_of_ne_nil hq
      have h1 := hc 0 x rfl
      have e : (ad.add 0).block = B := by rw [block_add]; exact hy
      unfold World.cell? at h1
      rw [e, hb] at h1
      simp only at h1
      split at h1
      · cases h1
      · exact hn _ _ h1
theorem rc_no8 {a b d : Value} (ha : ∃ p n c, a = .slice p n c) (hb : ∃ p n c, b = .slice p n c) (hd : ∃ p n c, d = .slice p n c) (x : Int) (o : Bool) (i : Nat) (y : Int) : (#[a, .int .i64 x, b, .bool o, d] : Array Value)[i]? ≠ some (.int .u8 y) := by
  obtain ⟨_, _, _, rfl⟩ := ha
  obtain ⟨_, _, _, rfl⟩ := hb
  obtain ⟨_, _, _, rfl⟩ := hd
  rcases i with _ | _ | _ | _ | _ | i <;> simp
theorem VC.apart {w : World} {X : Nat → Prop} {B : Nat} {A : Option Addr} {len cap : Nat} {v : Value} {came : Nat} {q : List Int} {over : Bool} {out : List Int} {cs : Array Value} {t : TypeId} {fr : Nat × Nat} (h : VC w X A len cap v came q over out) (hb : w.heap[B]? = some (.cells cs t fr)) (hn : ∀ (i : Nat) (x : Int), cs[i]? ≠ some (.int .u8 x)) : VC w (XG X B) A len cap v came q over out := by
  obtain ⟨Ar, cr, Ao, co, rfl, h1, h2⟩ := h
  exact ⟨Ar, cr, Ao, co, rfl, h1.apart hb hn, h2.apart hb hn⟩
theorem VC.set5 {w : World} {X : Nat → Prop} {B : Nat} {A : Option Addr} {len cap : Nat} {v : Value} {came : Nat} {q : List Int} {over : Bool} {out : List Int} {cs : Array Value} {t : TypeId} {fr : Nat × Nat} (h : VC w X A len cap v came q over out) (hb : w.heap[B]? = some (.cells cs t fr)) (hn : ∀ (i : Nat) (x : Int), cs[i]? ≠ some (.int .u8 x)) (a b c d e : Value) : VC (set5 w B a b c d e) X A len cap v came q over out :=
  ((h.apart hb hn).move fun k hk hn' => (set5_only w B a b c d e).block k hk (fun e => hn' (.inr e))).wide fun k hk => .inl (.inl hk)
/-- A whole console is stored into block G, which is none of the other console's. -/
theorem store5 {W w : World} {X : Nat → Prop} {C G : Nat} {al : List (Int × Int)} {A : Option Addr} {len cap : Nat} {v : Value} {came : Nat} {q : List Int} {over : Bool} {out : List Int} {z0 z2 z4 : Value} {z1 : Int} {z3 : Bool} (hK : KC W w X C al came q over out) (hV : VC w X A len cap v came q over out) (hG : w.heap[G]? = some (.cells #[z0, .int .i64 z1, z2, .bool z3, z4] 73 (0, 0))) (hz0 : ∃ p n c, z0 = .slice p n c) (hz2 : ∃ p n c, z2 = .slice p n c) (hz4 : ∃ p n c, z4 = .slice p n c) (hX : ∀ i, X i → i ≠ G) (hW : W.heap.size ≤ G) (a b c d e : Value) :
    ∀ wn, wn = ((((w.setCell ⟨G, 0, none⟩ a).setCell ⟨G, 1, none⟩ b).setCell ⟨G, 2, none⟩ c).setCell ⟨G, 3, none⟩ d).setCell ⟨G, 4, none⟩ e →
    KC W wn X C al came q over out ∧ VC wn X A len cap v came q over out ∧ wn.heap[G]? = some (.cells #[a, b, c, d, e] 73 (0, 0)) ∧ Only G w wn := by
  rintro wn rfl
  have ho := set5_only w G a b c d e
  exact ⟨hK.move (Y := fun k => k = G) (.of_only ho rfl) hX (fun i hi => by omega), hV.set5 hG (rc_no8 hz0 hz2 hz4 _ _) a b c d e, set5_heap hG a b c d e, ho⟩
theorem onlyp_fresh {X : Nat → Prop} {a w : World} {b i : Nat} {u : Value} (h : OnlyP X a w) (hb : a.heap.size ≤ b) : OnlyP X a (w.setCell ⟨b, i, none⟩ u) := by
  have ho := (Only.refl b w).setCell i u
  exact ⟨ho.os.trans h.os, ho.tape.trans h.tape, ho.output.trans h.output, Nat.le_trans h.size ho.size, fun k hk hn => (ho.block k (Nat.lt_of_lt_of_le hk h.size) (by omega)).trans (h.block k hk hn)⟩
theorem only_cell {X : Nat → Prop} {w w' : World} {a : Addr} {v : Value} (ho : OnlyP X w w') (hv : w.cell? a = some v) (hn : ¬ X a.block) : w'.cell? a = some v := by
  have h := ho.block a.block (World.block_lt_of_cell? w a hv) hn
  unfold World.cell? at hv ⊢
  rw [h]; exact hv
set_option maxHeartbeats 4000000 in
set_option maxRecDepth 100000 in
theorem con_plays_short (A : Option Addr) (len cap : Nat) (f : Nat → Nat → Int) (A2 : Option Addr) (n2 cap2 : Nat) (f2 : Nat → Nat → Int) (W : World) (hf : IsRows [.u64, .u8] W A len cap f) (hf2 : IsRows [.i64, .i64, .u64, .u32] W A2 n2 cap2 f2) (hl : len ≤ 400) (hn : n2 ≤ 200) :
    Calls Try.prog 9 #[.slice A len cap, .slice A2 n2 cap2] W fun e w' => e = .returned (.bool true) ∧ Below W.heap.size W w' := by
  have hcap := hf.le
  have hcap2 := hf2.le
  obtain ⟨r, hr, _⟩ := rright_calls W hf
  have HR : Aside0 (∀ w, Below W.heap.size W w → Calls _ _ #[.slice A len cap] w _) := ⟨fun w hw => by
    obtain ⟨r', hr', hc⟩ := rright_calls w (hf.below (by simp) hw)
    rw [right12_uniq hr' hr] at hc
    exact hc⟩
  have HF := Aside0.mk hf
  have HF2 := Aside0.mk hf2
  have hl' : ((400 : Int) < (len : Int)) = False := by simp; omega
  have hn' : ((200 : Int) < (n2 : Int)) = False := by simp; omega
  have al := arrs_length len f
  clear hf hf2
  rcases hr with ⟨rfl, hl2, hs⟩ | ⟨rfl, hl2, j, h2, h3, h4⟩ | ⟨rfl, hl2⟩
  · have HNEW := kc_new W W (Below.refl _ _) A cap (arrs len f) (rows_AR HF.out) (rows_nil HF.out) (rows_wa HF.out) (by rw [al]; exact hl2) (by rw [al]; exact hs)
    rw [al] at HNEW
    have HNEW := Aside0.mk HNEW
    obtain ⟨l, hL⟩ : ∃ l, arrs len f = l := ⟨_, rfl⟩
    have HAR := Aside0.mk (rows_AR HF.out)
    rw [hL] at HNEW al HAR
    clear hL hs
    go_enter Try.func9, Try.ntmps9
    go_wp2_with fail
    refine HNEW.out.mono ?_
    rintro e w1 ⟨C, X, rfl, k1, _, _⟩
    have K1 := Aside0.mk k1
    clear k1 HNEW
    go_wp2_with fail
    refine (HR.out _ K1.out.bel).mono ?_
    rintro e w2 ⟨rfl, d2⟩
    have K2 := Aside0.mk (K1.out.drawn d2)
    clear d2 K1
    go_upto_region 8 with fail
    have K3 := Aside0.mk (K2.out.below (below_alloc (Below.refl _ _) (.cells #[.slice A len cap, .int .i64 0, .slice none 0 0, .bool false, .slice none 0 0] 73)))
    have G3 := Aside0.mk (blk_new w2 (.cells #[.slice A len cap, .int .i64 0, .slice none 0 0, .bool false, .slice none 0 0] 73))
    have XG3 : Aside0 (W.heap.size ≤ w2.heap.size ∧ ∀ i, X i → i < w2.heap.size) := ⟨K2.out.bel.size, K2.out.xlt⟩
    generalize w2.alloc (.cells #[.slice A len cap, .int .i64 0, .slice none 0 0, .bool false, .slice none 0 0] 73) = w3 at K3 G3 ⊢
    obtain ⟨G, hG⟩ : ∃ G, w2.heap.size = G := ⟨_, rfl⟩
    rw [hG] at G3 XG3 ⊢
    clear hG K2
    have V3 : Aside0 (VC w3 X A len cap (.agg #[.slice A len cap, .int .i64 0, .slice none 0 0, .bool false, .slice none 0 0]) 0 [] false []) := ⟨⟨none, 0, none, 0, rfl, .inl ⟨rfl, rfl, rfl⟩, .inl ⟨rfl, rfl, rfl⟩⟩⟩
    have HSA := csame_calls W w3 X C A cap 0 l [] false [] _ K3.out (HAR.out.below K3.out.bel) (by omega) (by simp) (by rw [al]; exact V3.out)
    have HSA := Aside0.mk HSA
    have c0 : w3.cell? ⟨G, 0, none⟩ = some (.slice A len cap) := (blk_cell G3.out 0).trans rfl
    have c1 : w3.cell? ⟨G, 1, none⟩ = some (.int .i64 0) := (blk_cell G3.out 1).trans rfl
    have c2 : w3.cell? ⟨G, 2, none⟩ = some (.slice none 0 0) := (blk_cell G3.out 2).trans rfl
    have c3 : w3.cell? ⟨G, 3, none⟩ = some (.bool false) := (blk_cell G3.out 3).trans rfl
    have c4 : w3.cell? ⟨G, 4, none⟩ = some (.slice none 0 0) := (blk_cell G3.out 4).trans rfl
    go_wp2_with fail
    refine HSA.out.mono ?_
    rintro e w4 ⟨rfl, b4⟩
    have K4 := Aside0.mk (K3.out.below b4)
    have G4 := Aside0.mk (blk_below G3.out b4)
    have V4 := Aside0.mk (V3.out.below b4)
    clear b4 HSA K3 G3 V3 c0 c1 c2 c3 c4
    go_wp2_with fail
    go_loopg [9] (n2 + 1) (fun g i wr => ∃ (k came : Nat) (q : List Int) (over : Bool) (out : List Int) (X : Nat → Prop) (Ar : Option Addr) (cr : Nat) (Ao : Option Addr) (co : Nat), g + k = n2 + 1 ∧ k ≤ n2 ∧ out.length ≤ k ∧ i = .int .i64 (k : Int) ∧ Aside0 (KC W wr X C l came q over out) ∧ Aside0 (VC wr X A len cap (.agg #[.slice A len cap, .int .i64 (came : Int), .slice Ar q.length cr, .bool over, .slice Ao out.length co]) came q over out) ∧ Aside0 (wr.heap[G]? = some (.cells #[.slice A len cap, .int .i64 (came : Int), .slice Ar q.length cr, .bool over, .slice Ao out.length co] 73 (0, 0))) ∧ Aside0 (W.heap.size ≤ G ∧ ∀ i, X i → i ≠ G))
    case atStart => exact ⟨0, 0, [], false, [], X, none, 0, none, 0, rfl, by omega, by simp, rfl, K4, V4, G4, ⟨XG3.out.1, fun i hi => Nat.ne_of_lt (XG3.out.2 i hi)⟩⟩
    case round =>
      obtain ⟨k, came, q, over, out, X1, Ar, cr, Ao, co, hk, hkn, hok, rfl, hK, hV, hG, hX⟩ := hrel
      obtain ⟨wo, rfl⟩ : ∃ wo : World, wo = wr := ⟨_, rfl⟩
      clear K4 V4 G4 XG3
      by_cases hlt : k < n2
      · have hlt' : ((k : Int) < (n2 : Int)) = True := by simp; omega
        obtain ⟨y, hy, hc⟩ := HF2.out.at_ hlt
        subst hy
        have HYW : (y.add (k * 4)).block < W.heap.size := World.block_lt_of_cell? W (y.add (k * 4)) (hc 0 .i64 rfl).1
        have s0 := pw_cell_below hK.out.bel (hc 0 .i64 rfl).1
        have s1 := pw_cell_below hK.out.bel (hc 1 .i64 rfl).1
        have s2 := pw_cell_below hK.out.bel (hc 2 .u64 rfl).1
        have s3 := pw_cell_below hK.out.bel (hc 3 .u32 rfl).1
        have w2 := (hc 2 .u64 rfl).2
        have w3 := (hc 3 .u32 rfl).2
        simp [Lit.wf, IntKind.min, IntKind.max, IntKind.bits, IntKind.signed] at w2 w3
        change wo.cell? (y.add (k * 4)) = _ at s0
        change wo.cell? (y.add (k * 4 + 1)) = _ at s1
        change wo.cell? (y.add (k * 4 + 2)) = _ at s2
        change wo.cell? (y.add (k * 4 + 3)) = _ at s3
        rw [add_field _ _ _ (by omega)] at s1 s2 s3
        clear hc
        generalize f2 k 0 = z0 at s0
        generalize f2 k 1 = z1 at s1
        generalize f2 k 2 = z2 at s2 w2
        generalize f2 k 3 = z3 at s3 w3
        have HYB : Aside0 (∀ i, X1 i → i ≠ (y.add (k * 4)).block) := ⟨fun i hi e => by
          have h1 := hK.out.2.1 i hi
          have h2 := HYW
          omega⟩
        go_upto_region 13 with fail
        have HSTEP := Aside0.mk (fun w' (d : Below wo.heap.size wo w') => step_calls W w' X1 C A cap came l q over out _ z0 z1 z2 z3 (hK.out.below d) HAR.out (by omega) w2.1 (by omega) w3.1 (by omega) (by omega) (by rw [al]; exact hV.out.below d))
        obtain ⟨c0, c1, c2, c3, c4⟩ : wo.cell? ⟨G, 0, none⟩ = some (.slice A len cap) ∧ wo.cell? ⟨G, 1, none⟩ = some (.int .i64 (came : Int)) ∧ wo.cell? ⟨G, 2, none⟩ = some (.slice Ar q.length cr) ∧ wo.cell? ⟨G, 3, none⟩ = some (.bool over) ∧ wo.cell? ⟨G, 4, none⟩ = some (.slice Ao out.length co) := ⟨(blk_cell hG.out 0).trans rfl, (blk_cell hG.out 1).trans rfl, (blk_cell hG.out 2).trans rfl, (blk_cell hG.out 3).trans rfl, (blk_cell hG.out 4).trans rfl⟩
        have HX1 : Aside0 (∀ i, X1 i → i < wo.heap.size) := ⟨hK.out.xlt⟩
        have hXW : Aside0 (∀ i, X1 i → W.heap.size ≤ i) := ⟨hK.out.2.1⟩
        have KEEP : Aside0 (∀ w', OnlyP X1 wo w' → w'.cell? ⟨G, 0, none⟩ = some (.slice A len cap) ∧ w'.cell? ⟨G, 1, none⟩ = some (.int .i64 (came : Int)) ∧ w'.cell? ⟨G, 2, none⟩ = some (.slice Ar q.length cr) ∧ w'.cell? ⟨G, 3, none⟩ = some (.bool over) ∧ w'.cell? ⟨G, 4, none⟩ = some (.slice Ao out.length co) ∧ w'.cell? (y.add (k * 4)) = some (.int .i64 z0) ∧ w'.cell? ⟨(y.add (k * 4)).block, (y.add (k * 4)).off + 1, none⟩ = some (.int .i64 z1) ∧ w'.cell? ⟨(y.add (k * 4)).block, (y.add (k * 4)).off + 2, none⟩ = some (.int .u64 z2) ∧ w'.cell? ⟨(y.add (k * 4)).block, (y.add (k * 4)).off + 3, none⟩ = some (.int .u32 z3) ∧ OnlyP X1 wo w') := ⟨fun w' ho => by
          have hg := (ho.block G (blk_lt hG.out) (fun h => hX.out.2 _ h rfl)).trans hG.out
          have hm : ∀ {a : Addr} {v : Value}, a.block = (y.add (k * 4)).block → wo.cell? a = some v → w'.cell? a = some v := fun {a v} ha hv => only_cell ho hv (by rw [ha]; exact fun h => HYB.out _ h rfl)
          exact ⟨(blk_cell hg 0).trans rfl, (blk_cell hg 1).trans rfl, (blk_cell hg 2).trans rfl, (blk_cell hg 3).trans rfl, (blk_cell hg 4).trans rfl, hm rfl s0, hm rfl s1, hm rfl s2, hm rfl s3, ho⟩⟩
        obtain ⟨NN, hNN⟩ : ∃ NN, wo.heap.size = NN := ⟨_, rfl⟩
        go_region_held3 (fun w' => w'.cell? ⟨G, 0, none⟩ = some (.slice A len cap) ∧ w'.cell? ⟨G, 1, none⟩ = some (.int .i64 (came : Int)) ∧ w'.cell? ⟨G, 2, none⟩ = some (.slice Ar q.length cr) ∧ w'.cell? ⟨G, 3, none⟩ = some (.bool over) ∧ w'.cell? ⟨G, 4, none⟩ = some (.slice Ao out.length co) ∧ w'.cell? (y.add (k * 4)) = some (.int .i64 z0) ∧ w'.cell? ⟨(y.add (k * 4)).block, (y.add (k * 4)).off + 1, none⟩ = some (.int .i64 z1) ∧ w'.cell? ⟨(y.add (k * 4)).block, (y.add (k * 4)).off + 2, none⟩ = some (.int .u64 z2) ∧ w'.cell? ⟨(y.add (k * 4)).block, (y.add (k * 4)).off + 3, none⟩ = some (.int .u32 z3) ∧ OnlyP X1 wo w')
          (first
            | with_reducible exact KEEP.out _ hbn
            | with_reducible exact KEEP.out _ (onlyp_fresh (onlyp_fresh (onlyp_fresh (onlyp_fresh (onlyp_fresh hbn (Nat.le_of_eq hNN)) (Nat.le_of_eq hNN)) (Nat.le_of_eq hNN)) (Nat.le_of_eq hNN)) (Nat.le_of_eq hNN))
            | with_reducible exact KEEP.out _ (OnlyP.trans hbn (OnlyP.of_below (below_alloc (Below.refl _ _) _)))
            | with_reducible exact KEEP.out _ (OnlyP.of_below (Below.drew (Below.refl _ _)))
            | with_reducible exact KEEP.out _ (OnlyP.of_below (Below.drew (below_alloc (Below.refl _ _) _))))
          (first
            | (go_at_call 40; go_split_ands; (with_reducible refine (HSTEP.out (World.alloc wo _).drew (Below.drew (below_alloc (Below.refl _ _) _))).mono ?_); rintro e w' ⟨v', came', q', over', out', X', rfl, hK', hV', ho', hx', hO'⟩; have hX1 : ¬ X1 wo.heap.size := fun h => Nat.lt_irrefl _ (HX1.out _ h); have hbb : w'.heap[NN]? = some (.cells #[.slice none 0 0, .int .i64 0, .slice none 0 0, .bool false, .slice none 0 0] 73 (0, 0)) := hNN ▸ (hO'.block _ (show wo.heap.size < (World.alloc wo _).heap.size by simp) hX1).trans (blk_new wo _); have b0 : w'.cell? ⟨NN, 0, none⟩ = some (.slice none 0 0) := (blk_cell hbb 0).trans rfl; have b1 : w'.cell? ⟨NN, 1, none⟩ = some (.int .i64 0) := (blk_cell hbb 1).trans rfl; have b2 : w'.cell? ⟨NN, 2, none⟩ = some (.slice none 0 0) := (blk_cell hbb 2).trans rfl; have b3 : w'.cell? ⟨NN, 3, none⟩ = some (.bool false) := (blk_cell hbb 3).trans rfl; have b4 : w'.cell? ⟨NN, 4, none⟩ = some (.slice none 0 0) := (blk_cell hbb 4).trans rfl; have zb := blk_frozen hbb; have HB := Aside0.mk hbb; clear hbb hX1; have hbn : OnlyP X1 wo w' := OnlyP.trans (OnlyP.of_below (Below.drew (below_alloc (Below.refl _ _) _))) hO'; have HV' : Aside0 (VC w' X' A len cap v' came' q' over' out') := ⟨by rw [← al]; exact hV'⟩; have HK' := Aside0.mk hK'; obtain ⟨Ar', cr', Ao', co', hv', _, _⟩ := HV'.out; subst hv')
            | (go_at_call 40; go_split_ands; (with_reducible refine (HSTEP.out wo.drew (Below.drew (Below.refl _ _))).mono ?_); rintro e w' ⟨v', came', q', over', out', X', rfl, hK', hV', ho', hx', hO'⟩; have hbn : OnlyP X1 wo w' := OnlyP.trans (OnlyP.of_below (Below.drew (Below.refl _ _))) hO'; have HV' : Aside0 (VC w' X' A len cap v' came' q' over' out') := ⟨by rw [← al]; exact hV'⟩; have HK' := Aside0.mk hK'; obtain ⟨Ar', cr', Ao', co', hv', _, _⟩ := HV'.out; subst hv'))
        · have GW : Aside0 (w'.heap[G]? = _) := ⟨(hbn.block G (blk_lt hG.out) (fun h => hX.out.2 _ h rfl)).trans hG.out⟩
          have XN : Aside0 (W.heap.size ≤ G ∧ ∀ i, X' i → i ≠ G) := ⟨hX.out.1, fun i hi => by
            rcases hx' i hi with h | h
            · exact hX.out.2 i h
            · have h1 := blk_lt hG.out
              have h2 : wo.heap.size ≤ i := h
              omega⟩
          have H14 := fun (o : Obj) wn (h : wn = World.alloc w' o) => (by
            subst h
            exact ⟨HK'.out.below (below_alloc (Below.refl _ _) o), HV'.out.below (below_alloc (Below.refl _ _) o), blk_new w' o, blk_below GW.out (below_alloc (Below.refl _ _) o)⟩ : KC W wn X' C l came' q' over' out' ∧ VC wn X' A len cap _ came' q' over' out' ∧ wn.heap[w'.heap.size]? = some o ∧ wn.heap[G]? = _)
          generalize hWN : World.alloc w' _ = wn
          obtain ⟨kn, vn, tn, gn⟩ := H14 _ wn hWN.symm
          generalize w'.heap.size = T at tn ⊢
          clear hWN H14 GW
          have KN := Aside0.mk kn
          have VN := Aside0.mk vn
          have TN := Aside0.mk tn
          have GN := Aside0.mk gn
          clear kn vn tn gn
          have d0 : wn.cell? ⟨T, 0, none⟩ = some (.slice A len cap) := (blk_cell TN.out 0).trans rfl
          have d1 : wn.cell? ⟨T, 1, none⟩ = some (.int .i64 (came' : Int)) := (blk_cell TN.out 1).trans rfl
          have d2 : wn.cell? ⟨T, 2, none⟩ = some (.slice Ar' q'.length cr') := (blk_cell TN.out 2).trans rfl
          have d3 : wn.cell? ⟨T, 3, none⟩ = some (.bool over') := (blk_cell TN.out 3).trans rfl
          have d4 : wn.cell? ⟨T, 4, none⟩ = some (.slice Ao' out'.length co') := (blk_cell TN.out 4).trans rfl
          obtain ⟨g0, g1, g2, g3, g4⟩ : wn.cell? ⟨G, 0, none⟩ = some (.slice A len cap) ∧ wn.cell? ⟨G, 1, none⟩ = some (.int .i64 (came : Int)) ∧ wn.cell? ⟨G, 2, none⟩ = some (.slice Ar q.length cr) ∧ wn.cell? ⟨G, 3, none⟩ = some (.bool over) ∧ wn.cell? ⟨G, 4, none⟩ = some (.slice Ao out.length co) := ⟨(blk_cell GN.out 0).trans rfl, (blk_cell GN.out 1).trans rfl, (blk_cell GN.out 2).trans rfl, (blk_cell GN.out 3).trans rfl, (blk_cell GN.out 4).trans rfl⟩
          have zg := blk_frozen GN.out
          have OL : out'.length ≤ k + 1 := by omega
          clear ho' hx' hO' hbn HK' HV' hK' hV' c0 c1 c2 c3 c4 s0 s1 s2 s3 hK hV hG HYB HYW
          go_upto_region 15 with fail
          have H15 := store5 KN.out VN.out GN.out ⟨_, _, _, rfl⟩ ⟨_, _, _, rfl⟩ ⟨_, _, _, rfl⟩ XN.out.2 XN.out.1 (.slice A len cap) (.int .i64 (came' : Int)) (.slice Ar' q'.length cr') (.bool over') (.slice Ao' out'.length co')
          generalize hWM : World.setCell (World.setCell (World.setCell (World.setCell (World.setCell wn _ _) _ _) _ _) _ _) _ _ = wm
          obtain ⟨km, vm, gm, _⟩ := H15 wm hWM.symm
          have KM := Aside0.mk km
          have VM := Aside0.mk vm
          have GM := Aside0.mk gm
          clear km vm gm hWM H15 KN VN TN GN d0 d1 d2 d3 d4 g0 g1 g2 g3 g4 zg
          have HSA := Aside0.mk (csame_calls W wm X' C A cap came' l q' over' out' _ KM.out (HAR.out.below KM.out.bel) (by omega) (by omega) (by rw [al]; exact VM.out))
          obtain ⟨g0, g1, g2, g3, g4⟩ : wm.cell? ⟨G, 0, none⟩ = some (.slice A len cap) ∧ wm.cell? ⟨G, 1, none⟩ = some (.int .i64 (came' : Int)) ∧ wm.cell? ⟨G, 2, none⟩ = some (.slice Ar' q'.length cr') ∧ wm.cell? ⟨G, 3, none⟩ = some (.bool over') ∧ wm.cell? ⟨G, 4, none⟩ = some (.slice Ao' out'.length co') := ⟨(blk_cell GM.out 0).trans rfl, (blk_cell GM.out 1).trans rfl, (blk_cell GM.out 2).trans rfl, (blk_cell GM.out 3).trans rfl, (blk_cell GM.out 4).trans rfl⟩
          go_wp2_with fail
          refine HSA.out.mono ?_
          rintro e w6 ⟨rfl, b6⟩
          have K6 := Aside0.mk (KM.out.below b6)
          have V6 := Aside0.mk (VM.out.below b6)
          have G6 := Aside0.mk (blk_below GM.out b6)
          clear b6 KM VM GM HSA g0 g1 g2 g3 g4
          go_wp2_with fail
          go_roundg (gk - 1)
          case measure => omega
          case rel => exact ⟨k + 1, came', q', over', out', X', Ar', cr', Ao', co', by omega, by omega, OL, by congr 1, K6, V6, G6, XN⟩
        · have GW : Aside0 (w'.heap[G]? = _) := ⟨(hbn.block G (blk_lt hG.out) (fun h => hX.out.2 _ h rfl)).trans hG.out⟩
          have XN : Aside0 (W.heap.size ≤ G ∧ ∀ i, X' i → i ≠ G) := ⟨hX.out.1, fun i hi => by
            rcases hx' i hi with h | h
            · exact hX.out.2 i h
            · have h1 := blk_lt hG.out
              have h2 : wo.heap.size + 1 ≤ i := by simpa using h
              omega⟩
          have HN1 : Aside0 (NN ≠ G) := ⟨fun e => by have h1 := blk_lt hG.out; omega⟩
          have HN2 : Aside0 (∀ i, X' i → i ≠ NN) := ⟨fun i hi => by
            rcases hx' i hi with h | h
            · have := HX1.out i h; omega
            · have h2 : wo.heap.size + 1 ≤ i := by simpa using h
              omega⟩
          have HN3 : Aside0 (W.heap.size ≤ NN) := ⟨by have := hK.out.bel.size; omega⟩
          have H13 := store5 HK'.out HV'.out HB.out ⟨_, _, _, rfl⟩ ⟨_, _, _, rfl⟩ ⟨_, _, _, rfl⟩ HN2.out HN3.out (.slice A len cap) (.int .i64 (came' : Int)) (.slice Ar' q'.length cr') (.bool over') (.slice Ao' out'.length co')
          generalize hWN : World.setCell (World.setCell (World.setCell (World.setCell (World.setCell w' _ _) _ _) _ _) _ _) _ _ = wn
          obtain ⟨kn, vn, tn, on⟩ := H13 wn hWN.symm
          have gn := blk_only GW.out on (Ne.symm HN1.out)
          clear hWN H13 GW HN1 HN2 HN3 HB on b0 b1 b2 b3 b4 zb hNN
          generalize NN = T at *
          have KN := Aside0.mk kn
          have VN := Aside0.mk vn
          have TN := Aside0.mk tn
          have GN := Aside0.mk gn
          clear kn vn tn gn
          have d0 : wn.cell? ⟨T, 0, none⟩ = some (.slice A len cap) := (blk_cell TN.out 0).trans rfl
          have d1 : wn.cell? ⟨T, 1, none⟩ = some (.int .i64 (came' : Int)) := (blk_cell TN.out 1).trans rfl
          have d2 : wn.cell? ⟨T, 2, none⟩ = some (.slice Ar' q'.length cr') := (blk_cell TN.out 2).trans rfl
          have d3 : wn.cell? ⟨T, 3, none⟩ = some (.bool over') := (blk_cell TN.out 3).trans rfl
          have d4 : wn.cell? ⟨T, 4, none⟩ = some (.slice Ao' out'.length co') := (blk_cell TN.out 4).trans rfl
          obtain ⟨g0, g1, g2, g3, g4⟩ : wn.cell? ⟨G, 0, none⟩ = some (.slice A len cap) ∧ wn.cell? ⟨G, 1, none⟩ = some (.int .i64 (came : Int)) ∧ wn.cell? ⟨G, 2, none⟩ = some (.slice Ar q.length cr) ∧ wn.cell? ⟨G, 3, none⟩ = some (.bool over) ∧ wn.cell? ⟨G, 4, none⟩ = some (.slice Ao out.length co) := ⟨(blk_cell GN.out 0).trans rfl, (blk_cell GN.out 1).trans rfl, (blk_cell GN.out 2).trans rfl, (blk_cell GN.out 3).trans rfl, (blk_cell GN.out 4).trans rfl⟩
          have zg := blk_frozen GN.out
          have OL : out'.length ≤ k + 1 := by omega
          clear ho' hx' hO' hbn HK' HV' hK' hV' c0 c1 c2 c3 c4 s0 s1 s2 s3 hK hV hG HYB HYW
          go_upto_region 15 with fail
          have H15 := store5 KN.out VN.out GN.out ⟨_, _, _, rfl⟩ ⟨_, _, _, rfl⟩ ⟨_, _, _, rfl⟩ XN.out.2 XN.out.1 (.slice A len cap) (.int .i64 (came' : Int)) (.slice Ar' q'.length cr') (.bool over') (.slice Ao' out'.length co')
          generalize hWM : World.setCell (World.setCell (World.setCell (World.setCell (World.setCell wn _ _) _ _) _ _) _ _) _ _ = wm
          obtain ⟨km, vm, gm, _⟩ := H15 wm hWM.symm
          have KM := Aside0.mk km
          have VM := Aside0.mk vm
          have GM := Aside0.mk gm
          clear km vm gm hWM H15 KN VN TN GN d0 d1 d2 d3 d4 g0 g1 g2 g3 g4 zg
          have HSA := Aside0.mk (csame_calls W wm X' C A cap came' l q' over' out' _ KM.out (HAR.out.below KM.out.bel) (by omega) (by omega) (by rw [al]; exact VM.out))
          obtain ⟨g0, g1, g2, g3, g4⟩ : wm.cell? ⟨G, 0, none⟩ = some (.slice A len cap) ∧ wm.cell? ⟨G, 1, none⟩ = some (.int .i64 (came' : Int)) ∧ wm.cell? ⟨G, 2, none⟩ = some (.slice Ar' q'.length cr') ∧ wm.cell? ⟨G, 3, none⟩ = some (.bool over') ∧ wm.cell? ⟨G, 4, none⟩ = some (.slice Ao' out'.length co') := ⟨(blk_cell GM.out 0).trans rfl, (blk_cell GM.out 1).trans rfl, (blk_cell GM.out 2).trans rfl, (blk_cell GM.out 3).trans rfl, (blk_cell GM.out 4).trans rfl⟩
          go_wp2_with fail
          refine HSA.out.mono ?_
          rintro e w6 ⟨rfl, b6⟩
          have K6 := Aside0.mk (KM.out.below b6)
          have V6 := Aside0.mk (VM.out.below b6)
          have G6 := Aside0.mk (blk_below GM.out b6)
          clear b6 KM VM GM HSA g0 g1 g2 g3 g4
          go_wp2_with fail
          go_roundg (gk - 1)
          case measure => omega
          case rel => exact ⟨k + 1, came', q', over', out', X', Ar', cr', Ao', co', by omega, by omega, OL, by congr 1, K6, V6, G6, XN⟩
      · have hlt' : ((k : Int) < (n2 : Int)) = False := by simp; omega
        go_wp2_with fail
        refine (con_awake_calls _).mono ?_
        rintro e w5 ⟨rfl, b5⟩
        have B5 := Aside0.mk (below_on hK.out.bel b5)
        clear b5
        go_wp2_with fail
        go_ret
        exact ⟨rfl, B5.out⟩
  · have HN := cnew_bad W A cap (arrs len f) (rows_AR HF.out) (by rw [al]; exact hl2) j _ _ (arrs_at (by omega)) (arrs_at h2) h3 (fun i p p' hi hp hp' => by obtain ⟨_, rfl⟩ := arrs_get hp; obtain ⟨_, rfl⟩ := arrs_get hp'; exact h4 i hi)
    rw [al] at HN
    have HN := Aside0.mk HN
    clear h2 h3 h4
    go_enter Try.func9, Try.ntmps9
    have B0 := Aside0.mk ((Below.refl W.heap.size W))
    go_wp2_with fail
    refine (HN.out).mono ?_
    rintro e w1 ⟨rfl, d⟩
    have B1 := Aside0.mk (drawn_below' B0.out d)
    clear d B0
    go_wp2_with fail
    refine (HR.out _ B1.out).mono ?_
    rintro e w2 ⟨rfl, d⟩
    have B2 := Aside0.mk (drawn_below' B1.out d)
    clear d B1
    go_wp2_with fail
    refine (con_awake_calls _).mono ?_
    rintro e w3 ⟨rfl, d⟩
    have B3 := Aside0.mk (below_on B2.out d)
    clear d B2
    go_wp2_with fail
    go_ret
    exact ⟨by simp, B3.out⟩
  · have HN := Aside0.mk (cnew_long W A len cap hl2)
    go_enter Try.func9, Try.ntmps9
    have B4 := Aside0.mk ((Below.refl W.heap.size W))
    go_wp2_with fail
    refine (HN.out).mono ?_
    rintro e w4 ⟨rfl, d⟩
    have B5 := Aside0.mk (drawn_below' B4.out d)
    clear d B4
    go_wp2_with fail
    refine (HR.out _ B5.out).mono ?_
    rintro e w5 ⟨rfl, d⟩
    have B6 := Aside0.mk (drawn_below' B5.out d)
    clear d B5
    go_wp2_with fail
    refine (con_awake_calls _).mono ?_
    rintro e w6 ⟨rfl, d⟩
    have B7 := Aside0.mk (below_on B6.out d)
    clear d B6
    go_wp2_with fail
    go_ret
    exact ⟨by simp, B7.out⟩

set_option maxHeartbeats 4000000 in
set_option maxRecDepth 100000 in
theorem con_plays (A : Option Addr) (len cap : Nat) (f : Nat → Nat → Int) (A2 : Option Addr) (n2 cap2 : Nat) (f2 : Nat → Nat → Int) (W : World) (hf : IsRows [.u64, .u8] W A len cap f) (hf2 : IsRows [.i64, .i64, .u64, .u32] W A2 n2 cap2 f2) :
    Calls Try.prog 9 #[.slice A len cap, .slice A2 n2 cap2] W fun e w' => e = .returned (.bool true) ∧ Below W.heap.size W w' := by
  by_cases hl : 400 < len
  · have hl' : ((400 : Int) < (len : Int)) = True := by simp; omega
    go_enter Try.func9, Try.ntmps9
    have B0 := Aside0.mk ((Below.refl W.heap.size W))
    go_wp2_with fail
    refine (con_awake_calls _).mono ?_
    rintro e w1 ⟨rfl, d⟩
    have B1 := Aside0.mk (below_on B0.out d)
    clear d B0
    go_wp2_with fail
    go_ret
    exact ⟨rfl, B1.out⟩
  · by_cases hn : 200 < n2
    · have hl' : ((400 : Int) < (len : Int)) = False := by simp; omega
      have hn' : ((200 : Int) < (n2 : Int)) = True := by simp; omega
      go_enter Try.func9, Try.ntmps9
      have B2 := Aside0.mk ((Below.refl W.heap.size W))
      go_wp2_with fail
      refine (con_awake_calls _).mono ?_
      rintro e w2 ⟨rfl, d⟩
      have B3 := Aside0.mk (below_on B2.out d)
      clear d B2
      go_wp2_with fail
      go_ret
      exact ⟨rfl, B3.out⟩
    · exact con_plays_short A len cap f A2 n2 cap2 f2 W hf hf2 (by omega) (by omega)
end Go.Proofs.Ytonfblfbmnepoaa
