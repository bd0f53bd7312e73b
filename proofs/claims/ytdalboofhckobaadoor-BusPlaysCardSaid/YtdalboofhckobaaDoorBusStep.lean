/- The statements' own step on a bus: the walk, whatever the calls leave. (PK=QBusPlays) -/
import Derived.Test.YtdalboofhckobaaDoorBusP
import Derived.Test.YtdalboofhckobaaDoorRefConC
import Derived.Test.YtdalboofhckobaaDoorRegInvF
import Derived.Deep.RegionWith
import Derived.Deep.LoopGhost
namespace Go.Proofs.YtdalboofhckobaaDoor
open Go Go.RowKit Go.Deep Go.Proofs.YtdalboofhckobaaDoorW.PrintWords Go.Proofs.YtdalboofhckobaaDoor.QBusPlays
set_option linter.unusedVariables false
set_option linter.unusedSimpArgs false

/-- v is the document's bus; X holds of none of its rows' blocks. -/
def VBus (w : World) (X : Nat → Prop) (A : Option Addr) (len cap : Nat) (v : Value) (l : List Int) (came : Nat) (q : List Int) (over : Bool) (out : List Int) (o m : Int) (s off : Bool) (code : Int) : Prop :=
  ∃ Ab cb Ar cr Ao co, v = .agg #[.slice Ab l.length cb, .slice A len cap, .int .i64 (came : Int), .slice Ar q.length cr, .bool over, .slice Ao out.length co, .int .u64 o, .int .u64 m, .bool s, .bool off, .int .u32 code] ∧ VR w X Ab cb l ∧ VR w X Ar cr q ∧ VR w X Ao co out
/-- The two boxes at B: the bus, and what is handed back. -/
structure TwoB (w : World) (B : Nat) (cs rs : Array Value) : Prop where
  b : w.heap[B]? = some (.cells cs 65 (0, 0))
  r : w.heap[B + 1]? = some (.cells rs 65 (0, 0))
theorem TwoB.below {w w' : World} {B : Nat} {cs rs : Array Value} (h : TwoB w B cs rs) (k : Below w.heap.size w w') : TwoB w' B cs rs := ⟨blk_below h.b k, blk_below h.r k⟩
theorem TwoB.frozen {w : World} {B : Nat} {cs rs : Array Value} (h : TwoB w B cs rs) : (∀ i, w.frozen? ⟨B, i, none⟩ = false) ∧ ∀ i, w.frozen? ⟨B + 1, i, none⟩ = false := ⟨blk_frozen h.b, blk_frozen h.r⟩
set_option maxHeartbeats 2000000 in
theorem TwoB.cb {w : World} {B : Nat} {rs : Array Value} {a b c d e f g h i j k : Value} (H : TwoB w B #[a, b, c, d, e, f, g, h, i, j, k] rs) : w.cell? ⟨B, 0, none⟩ = some a ∧ w.cell? ⟨B, 1, none⟩ = some b ∧ w.cell? ⟨B, 2, none⟩ = some c ∧ w.cell? ⟨B, 3, none⟩ = some d ∧ w.cell? ⟨B, 4, none⟩ = some e ∧ w.cell? ⟨B, 5, none⟩ = some f ∧ w.cell? ⟨B, 6, none⟩ = some g ∧ w.cell? ⟨B, 7, none⟩ = some h ∧ w.cell? ⟨B, 8, none⟩ = some i ∧ w.cell? ⟨B, 9, none⟩ = some j ∧ w.cell? ⟨B, 10, none⟩ = some k :=
  ⟨(blk_cell H.b 0).trans rfl, (blk_cell H.b 1).trans rfl, (blk_cell H.b 2).trans rfl, (blk_cell H.b 3).trans rfl, (blk_cell H.b 4).trans rfl, (blk_cell H.b 5).trans rfl, (blk_cell H.b 6).trans rfl, (blk_cell H.b 7).trans rfl, (blk_cell H.b 8).trans rfl, (blk_cell H.b 9).trans rfl, (blk_cell H.b 10).trans rfl⟩
set_option maxHeartbeats 2000000 in
theorem TwoB.cr {w : World} {B : Nat} {cs : Array Value} {a b c d e f g h i j k : Value} (H : TwoB w B cs #[a, b, c, d, e, f, g, h, i, j, k]) : w.cell? ⟨B + 1, 0, none⟩ = some a ∧ w.cell? ⟨B + 1, 1, none⟩ = some b ∧ w.cell? ⟨B + 1, 2, none⟩ = some c ∧ w.cell? ⟨B + 1, 3, none⟩ = some d ∧ w.cell? ⟨B + 1, 4, none⟩ = some e ∧ w.cell? ⟨B + 1, 5, none⟩ = some f ∧ w.cell? ⟨B + 1, 6, none⟩ = some g ∧ w.cell? ⟨B + 1, 7, none⟩ = some h ∧ w.cell? ⟨B + 1, 8, none⟩ = some i ∧ w.cell? ⟨B + 1, 9, none⟩ = some j ∧ w.cell? ⟨B + 1, 10, none⟩ = some k :=
  ⟨(blk_cell H.r 0).trans rfl, (blk_cell H.r 1).trans rfl, (blk_cell H.r 2).trans rfl, (blk_cell H.r 3).trans rfl, (blk_cell H.r 4).trans rfl, (blk_cell H.r 5).trans rfl, (blk_cell H.r 6).trans rfl, (blk_cell H.r 7).trans rfl, (blk_cell H.r 8).trans rfl, (blk_cell H.r 9).trans rfl, (blk_cell H.r 10).trans rfl⟩
/-- Many cells stored into a block of as many. -/
theorem storeN {w : World} {g t : Nat} {cs : Array Value} (h : w.heap[g]? = some (.cells cs t (0, 0))) (vs : List Value) (hs : cs.size = vs.length) : (w.setCells g 0 vs).heap[g]? = some (.cells vs.toArray t (0, 0)) ∧ Only g w (w.setCells g 0 vs) := by
  refine ⟨?_, only_setCells _ _ _⟩
  rw [blk_setCells vs 0 w cs h]
  congr 2
  apply Array.toList_inj.1
  rw [putAt_list _ _ _ (by simp [hs])]
  have hl : cs.toList.length = vs.length := by simp [hs]
  simp [List.drop_of_length_le (show cs.toList.length ≤ vs.length by omega)]
/-- Writes to the box G alone, of n cells of type t. -/
def IGn (t G n : Nat) (w0 w : World) : Prop := Only G w0 w ∧ ∃ cs, w.heap[G]? = some (.cells cs t (0, 0)) ∧ cs.size = n
theorem IGn.below {t G n : Nat} {w0 w w' : World} (h : IGn t G n w0 w) (d : Below w.heap.size w w') : IGn t G n w0 w' := ⟨h.1.on d, by obtain ⟨cs, h1, h2⟩ := h.2; exact ⟨cs, blk_below h1 d, h2⟩⟩
theorem IGn.there {t G n : Nat} {w0 w : World} (h : IGn t G n w0 w) : w.there G 0 n := fun j hj => by
  obtain ⟨h1, cs, h2, h3⟩ := h
  rw [Nat.zero_add]
  exact ⟨by rw [cell_of_row w G j _ _ _ h2]; simp [h3, hj], blk_frozen h2 j⟩
/-- The box holds these. -/
def FullN (t G : Nat) (cs : Array Value) (w : World) : Prop := w.heap[G]? = some (.cells cs t (0, 0))
def RGn (t G : Nat) (cs : Array Value) (x y : World) : Prop := Only G x y ∧ (FullN t G cs x → FullN t G cs y)
theorem RGn.refl (t G : Nat) (cs : Array Value) (x : World) : RGn t G cs x x := ⟨Only.refl G x, id⟩
theorem RGn.of_below {t G : Nat} {cs : Array Value} {x y : World} (h : Below x.heap.size x y) : RGn t G cs x y := ⟨.of_below h, fun e => blk_below e h⟩
theorem fill_n {t G n : Nat} {w0 w : World} (h : IGn t G n w0 w) (vs : List Value) (hs : n = vs.length) : IGn t G n w0 (w.setCells G 0 vs) ∧ RGn t G vs.toArray w (w.setCells G 0 vs) ∧ FullN t G vs.toArray (w.setCells G 0 vs) := by
  obtain ⟨h1, cs, h2, h3⟩ := h
  have hs' := storeN h2 vs (by omega)
  exact ⟨⟨h1.trans hs'.2, _, hs'.1, by simp [hs]⟩, ⟨hs'.2, fun _ => hs'.1⟩, hs'.1⟩
/-- A box that was made, and filled since, is new. -/
theorem fresh_below {w w' : World} {o : Obj} (h : Only w.heap.size (w.alloc o) w') : Below w.heap.size w w' :=
  ⟨h.os, h.tape, h.output, by have := h.size; rw [World.size_alloc] at this; omega, fun k hk => (h.block k (by rw [World.size_alloc]; omega) (by omega)).trans ((below_alloc (Below.refl _ w) o).block k hk)⟩
theorem there_mid {w : World} {B t : Nat} {cs : Array Value} (H : w.heap[B]? = some (.cells cs t (0, 0))) (o n : Nat) (h : o + n ≤ cs.size) : w.there B o n := fun j hj => by
  refine ⟨?_, blk_frozen H _⟩
  rw [cell_of_row w B (o + j) _ _ _ H]
  simp [show o + j < cs.size by omega]
/-- The other box at first. -/
def zero11 : Array Value := #[.slice none 0 0, .slice none 0 0, .int .i64 0, .slice none 0 0, .bool false, .slice none 0 0, .int .u64 0, .int .u64 0, .bool false, .bool false, .int .u32 0]
/-- A whole bus is stored into the box G. -/
def copyB (w : World) (G : Nat) (a b c d e f g h i j k : Value) : World := ((((((((((w.setCell ⟨G, 0, none⟩ a).setCell ⟨G, 1, none⟩ b).setCell ⟨G, 2, none⟩ c).setCell ⟨G, 3, none⟩ d).setCell ⟨G, 4, none⟩ e).setCell ⟨G, 5, none⟩ f).setCell ⟨G, 6, none⟩ g).setCell ⟨G, 7, none⟩ h).setCell ⟨G, 8, none⟩ i).setCell ⟨G, 9, none⟩ j).setCell ⟨G, 10, none⟩ k
theorem copyB_eq (w : World) (G : Nat) (a b c d e f g h i j k : Value) : copyB w G a b c d e f g h i j k = w.setCells G 0 [a, b, c, d, e, f, g, h, i, j, k] := rfl
theorem copyB_r {w : World} {G : Nat} {cs : Array Value} (H : w.heap[G]? = some (.cells cs 65 (0, 0))) (hs : cs.size = 11) (a b c d e f g h i j k : Value) :
    (copyB w G a b c d e f g h i j k).heap[G]? = some (.cells #[a, b, c, d, e, f, g, h, i, j, k] 65 (0, 0)) := by
  rw [copyB_eq]
  exact (storeN H [a, b, c, d, e, f, g, h, i, j, k] hs).1
theorem copyB_only (w : World) (G : Nat) (a b c d e f g h i j k : Value) : Only G w (copyB w G a b c d e f g h i j k) := by
  rw [copyB_eq]
  exact only_setCells _ _ _
section
variable {w : World} {X : Nat → Prop} {A : Option Addr} {len cap : Nat} {v : Value} {l : List Int} {came : Nat} {q : List Int} {over : Bool} {out : List Int} {o m : Int} {s off : Bool} {code : Int}
theorem VBus.below {w' : World} (h : VBus w X A len cap v l came q over out o m s off code) (d : Below w.heap.size w w') : VBus w' X A len cap v l came q over out o m s off code := by
  obtain ⟨Ab, cb, Ar, cr, Ao, co, rfl, h1, h2, h3⟩ := h
  exact ⟨Ab, cb, Ar, cr, Ao, co, rfl, h1.below d, h2.below d, h3.below d⟩
/-- What is handed back. -/
theorem vbus_fin {w0 w1 w2 : World} {B : Nat} (hB : w0.heap.size = B) {Ab Ar Ao : Option Addr} {cb cr co : Nat} (h1 : VR w1 (XB X B) Ab cb l) (h2 : VR w1 (XB X B) Ar cr q) (h3 : VR w1 (XB X B) Ao co out) (hb : Below w0.heap.size w0 w1) (ho : OnlyP (TX B) w1 w2) :
    VBus w2 X A len cap (.agg #[.slice Ab l.length cb, .slice A len cap, .int .i64 (came : Int), .slice Ar q.length cr, .bool over, .slice Ao out.length co, .int .u64 o, .int .u64 m, .bool s, .bool off, .int .u32 code]) l came q over out o m s off code ∧ Below w0.heap.size w0 w2 :=
  ⟨⟨Ab, cb, Ar, cr, Ao, co, rfl, (h1.tx ho).unxb, (h2.tx ho).unxb, (h3.tx ho).unxb⟩, ho.below (fun k hk => by rcases hk with rfl | rfl <;> omega) hb⟩
theorem bus_start (w : World) (X : Nat → Prop) {Ab Ar Ao : Option Addr} {cb cr co : Nat} (h1 : VR w X Ab cb l) (h2 : VR w X Ar cr q) (h3 : VR w X Ao co out) (cs : Array Value) :
    ∀ w2, w2 = ((w.alloc (.cells cs 65)).alloc (.cells zero11 65)) → (VR w2 (XB X w.heap.size) Ab cb l ∧ VR w2 (XB X w.heap.size) Ar cr q ∧ VR w2 (XB X w.heap.size) Ao co out) ∧ Below w.heap.size w w2 ∧ TwoB w2 w.heap.size cs zero11 := by
  rintro w2 rfl
  have hb : Below w.heap.size w ((w.alloc (.cells cs 65)).alloc (.cells zero11 65)) := below_alloc (below_alloc (Below.refl _ _) _) _
  refine ⟨⟨h1.xb.below hb, h2.xb.below hb, h3.xb.below hb⟩, hb, blk_below (blk_new w _) (below_alloc (Below.refl _ _) _), ?_⟩
  have := blk_new (w.alloc (.cells cs 65)) (.cells zero11 65)
  rwa [World.size_alloc] at this
end

set_option maxRecDepth 100000 in
set_option maxHeartbeats 8000000 in
theorem rload_mem (w : World) (X : Nat → Prop) (A : Option Addr) (len cap : Nat) (v : Value) (l : List Int) (came : Nat) (q : List Int) (over : Bool) (out : List Int) (o m : Int) (s off : Bool) (code : Int) (a mm t r : Int) (hV : VBus w X A len cap v l came q over out o m s off code) (hl : l.length ≤ 65536)
    (hc : mimesisref14_Class.f 1 l a mm = some 1) (hr : mimesisref10_Load.f 60 l a mm = some r) :
    Calls Tryd.prog 49 #[v, .int .u32 a, .int .i64 mm, .int .u64 t] w fun e w' => ∃ v', e = .returned (.tuple #[v', .int .u32 r]) ∧ VBus w' X A len cap v' l came q over out o m s off code ∧ Below w.heap.size w w' := by
  obtain ⟨Ab, cb, Ar, cr, Ao, co, rfl, h1, h2, h3⟩ := hV
  have HS := Aside0.mk (bus_start w X h1 h2 h3 #[.slice Ab l.length cb, .slice A len cap, .int .i64 (came : Int), .slice Ar q.length cr, .bool over, .slice Ao out.length co, .int .u64 o, .int .u64 m, .bool s, .bool off, .int .u32 code])
  obtain ⟨B, hB⟩ : ∃ B, w.heap.size = B := ⟨_, rfl⟩
  have HBS := Aside0.mk hB
  have HC := Aside0.mk hc
  have HL := Aside0.mk hl
  have HLD := Aside0.mk hr
  have hcb := h1.le
  obtain ⟨nl, hnl⟩ : ∃ nl, l.length = nl := ⟨_, rfl⟩
  obtain ⟨nq, hnq⟩ : ∃ nq, q.length = nq := ⟨_, rfl⟩
  obtain ⟨no, hno⟩ : ∃ no, out.length = no := ⟨_, rfl⟩
  rw [hnl, hnq, hno] at HS ⊢
  have HN := Aside0.mk (And.intro hnl (And.intro hnq hno))
  have HCB := Aside0.mk hcb
  clear hB hc hl h1 h2 h3 hcb hnl hnq hno hr
  go_enter Tryd.func49, Tryd.ntmps49
  go_upto_region 1 with fail
  generalize hW : World.alloc (World.alloc w _) _ = w1
  obtain ⟨⟨v1, v2, v3⟩, b1, t1⟩ := HS.out w1 hW.symm
  have V1 := Aside0.mk v1
  have V2 := Aside0.mk v2
  have V3 := Aside0.mk v3
  have B1 := Aside0.mk b1
  have T1 := Aside0.mk t1
  clear v1 v2 v3 b1 t1 hW HS
  have hBS := HBS.out
  rw [hBS] at T1 V1 V2 V3 ⊢
  clear hBS
  obtain ⟨c0, c1, c2, c3, c4, c5, c6, c7, c8, c9, c10⟩ := T1.out.cb
  have HCL : Aside0 (Calls Tryd.prog _ #[.slice Ab nl cb, .int .u32 a, .int .i64 mm] w1 _) := ⟨by
    have := mimesisref14_Class.calls 1 Ab cb l a mm 1 w1 (V1.out.C (by have := HL.out; omega)) HCB.out HC.out
    rw [HN.out.1] at this
    exact this⟩
  go_wp2_with fail
  refine HCL.out.mono ?_
  rintro e w2 ⟨rfl, hd⟩
  have V4 := Aside0.mk (V1.out.drawn hd)
  have V5 := Aside0.mk (V2.out.drawn hd)
  have V6 := Aside0.mk (V3.out.drawn hd)
  have B2 := Aside0.mk (below_on B1.out hd.below)
  have T2 := Aside0.mk (T1.out.below hd.below)
  clear hd HCL c0 c1 c2 c3 c4 c5 c6 c7 c8 c9 c10 V1 V2 V3 B1 T1
  go_wp2_with fail
  have HI0 : Aside0 (IGn 65 (B + 1) 11 w2 w2.drew) := ⟨(Only.refl (B + 1) w2).drew, _, T2.out.r, rfl⟩
  refine wp_region_rj (by kernel_rfl) 7 (fun W' => IGn 65 (B + 1) 11 w2 W') (RGn 65 (B + 1) #[.slice Ab nl cb, .slice A len cap, .int .i64 (came : Int), .slice Ar nq cr, .bool over, .slice Ao no co, .int .u64 o, .int .u64 m, .bool s, .bool off, .int .u32 code]) (fun i v w => match i with | 0 => v = .agg #[.slice Ab nl cb, .slice A len cap, .int .i64 (came : Int), .slice Ar nq cr, .bool over, .slice Ao no co, .int .u64 o, .int .u64 m, .bool s, .bool off, .int .u32 code] | 1 => v = .pointer (some ⟨B, 0, none⟩) | 2 => v = .slice Ab nl cb | 3 => v = .int .u32 a | 4 => v = .int .i64 mm | 5 => v = .int .u32 r | 6 => FullN 65 (B + 1) #[.slice Ab nl cb, .slice A len cap, .int .i64 (came : Int), .slice Ar nq cr, .bool over, .slice Ao no co, .int .u64 o, .int .u64 m, .bool s, .bool off, .int .u32 code] w | _ => True) (by kernel_rfl) ?hR HI0.out ?step ?fin
  case hR =>
    intro j v w w' h k
    match j, h with
    | 0, h => exact h
    | 1, h => exact h
    | 2, h => exact h
    | 3, h => exact h
    | 4, h => exact h
    | 5, h => exact h
    | 6, h => exact k.2 h
    | _ + 7, h => trivial
  case step =>
    intro i op hi him b W' hinv hkeep hdef hpre K hK
    have HI := Aside0.mk hinv
    have HPRE := Aside0.mk hpre
    have HKEEP := Aside0.mk hkeep
    have HKK := Aside0.mk hK
    clear hinv hpre hkeep hK hdef
    have TB : W'.heap[B]? = some (.cells #[.slice Ab nl cb, .slice A len cap, .int .i64 (came : Int), .slice Ar nq cr, .bool over, .slice Ao no co, .int .u64 o, .int .u64 m, .bool s, .bool off, .int .u32 code] 65 (0, 0)) := blk_only T2.out.b HI.out.1 (by omega)
    obtain rfl | rfl | rfl | rfl | rfl | rfl | rfl : i = 0 ∨ i = 1 ∨ i = 2 ∨ i = 3 ∨ i = 4 ∨ i = 5 ∨ i = 6 := by omega
    · cases hi
      have e4 : b.tmps.getD 4 undef = .pointer (some ⟨B, 0, none⟩) := HKEEP.out 4 (by kernel_rfl)
      have c0 : W'.cell? ⟨B, 0, none⟩ = some (.slice Ab nl cb) := (blk_cell TB 0).trans rfl
      have c1 : W'.cell? ⟨B, 1, none⟩ = some (.slice A len cap) := (blk_cell TB 1).trans rfl
      have c2 : W'.cell? ⟨B, 2, none⟩ = some (.int .i64 (came : Int)) := (blk_cell TB 2).trans rfl
      have c3 : W'.cell? ⟨B, 3, none⟩ = some (.slice Ar nq cr) := (blk_cell TB 3).trans rfl
      have c4 : W'.cell? ⟨B, 4, none⟩ = some (.bool over) := (blk_cell TB 4).trans rfl
      have c5 : W'.cell? ⟨B, 5, none⟩ = some (.slice Ao no co) := (blk_cell TB 5).trans rfl
      have c6 : W'.cell? ⟨B, 6, none⟩ = some (.int .u64 o) := (blk_cell TB 6).trans rfl
      have c7 : W'.cell? ⟨B, 7, none⟩ = some (.int .u64 m) := (blk_cell TB 7).trans rfl
      have c8 : W'.cell? ⟨B, 8, none⟩ = some (.bool s) := (blk_cell TB 8).trans rfl
      have c9 : W'.cell? ⟨B, 9, none⟩ = some (.bool off) := (blk_cell TB 9).trans rfl
      have c10 : W'.cell? ⟨B, 10, none⟩ = some (.int .u32 code) := (blk_cell TB 10).trans rfl
      rw [if_pos (by rfl)]
      go_simp
      exact HKK.out _ _ HI.out (RGn.refl _ _ _ _) (by first | rfl | (simp; done))
    · cases hi
      have e4 : b.tmps.getD 4 undef = .pointer (some ⟨B, 0, none⟩) := HKEEP.out 4 (by kernel_rfl)
      rw [if_pos (by rfl)]
      go_simp
      exact HKK.out _ _ HI.out (RGn.refl _ _ _ _) (by first | rfl | (simp; done))
    · cases hi
      have e19 : b.tmps.getD 19 undef = .pointer (some ⟨B, 0, none⟩) := HPRE.out 1 (by kernel_rfl) (by omega)
      have c0 : W'.cell? ⟨B, 0, none⟩ = some (.slice Ab nl cb) := (blk_cell TB 0).trans rfl
      rw [if_pos (by rfl)]
      go_simp
      exact HKK.out _ _ HI.out (RGn.refl _ _ _ _) (by first | rfl | (simp; done))
    · cases hi
      have e1 : b.tmps.getD 1 undef = .int .u32 a := HKEEP.out 1 (by kernel_rfl)
      rw [if_pos (by rfl)]
      go_simp
      exact HKK.out _ _ HI.out (RGn.refl _ _ _ _) (by first | rfl | (simp; done))
    · cases hi
      have e2 : b.tmps.getD 2 undef = .int .i64 mm := HKEEP.out 2 (by kernel_rfl)
      rw [if_pos (by rfl)]
      go_simp
      exact HKK.out _ _ HI.out (RGn.refl _ _ _ _) (by first | rfl | (simp; done))
    · cases hi
      have e20 : b.tmps.getD 20 undef = .slice Ab nl cb := HPRE.out 2 (by kernel_rfl) (by omega)
      have e21 : b.tmps.getD 21 undef = .int .u32 a := HPRE.out 3 (by kernel_rfl) (by omega)
      have e22 : b.tmps.getD 22 undef = .int .i64 mm := HPRE.out 4 (by kernel_rfl) (by omega)
      rw [if_pos (by rfl)]
      go_simp
      have VL := V4.out.move (w' := W') (fun k _ hx => HI.out.1.block k ‹_› (fun e => hx (.inr (.inr e))))
      have HM := mimesisref10_Load.calls 60 Ab cb l a mm r W' (VL.C (by have := HL.out; omega)) HCB.out HLD.out
      rw [HN.out.1] at HM
      refine HM.mono ?_
      rintro e W2 ⟨rfl, d⟩
      exact HKK.out _ _ (HI.out.below d.below) (.of_below d.below) rfl
    · cases hi
      have e8 : b.tmps.getD 8 undef = .pointer (some ⟨B + 1, 0, none⟩) := HKEEP.out 8 (by kernel_rfl)
      have e18 : b.tmps.getD 18 undef = .agg #[.slice Ab nl cb, .slice A len cap, .int .i64 (came : Int), .slice Ar nq cr, .bool over, .slice Ao no co, .int .u64 o, .int .u64 m, .bool s, .bool off, .int .u32 code] := HPRE.out 0 (by kernel_rfl) (by omega)
      have hf := fill_n HI.out (#[.slice Ab nl cb, .slice A len cap, .int .i64 (came : Int), .slice Ar nq cr, .bool over, .slice Ao no co, .int .u64 o, .int .u64 m, .bool s, .bool off, .int .u32 code] : Array Value).toList rfl
      rw [if_pos (by rfl)]
      exact wp_store_mid 65 (.tmp 8) (.tmp 18) rfl (B + 1) 0 #[.slice Ab nl cb, .slice A len cap, .int .i64 (came : Int), .slice Ar nq cr, .bool over, .slice Ao no co, .int .u64 o, .int .u64 m, .bool s, .bool off, .int .u32 code] e8 e18 HI.out.there (by kernel_rfl) (by simp [Value.oneCell']) (HKK.out undef _ hf.1 hf.2.1 hf.2.2)
  case fin =>
    intro b W' hinv hsz hdef hkeep hpost
    have e23 : b.tmps.getD 23 undef = .int .u32 r := hpost 5 (by omega)
    have k8 : b.tmps.getD 8 undef = .pointer (some ⟨B + 1, 0, none⟩) := hkeep 8 (by kernel_rfl)
    have hfin : W'.heap[B + 1]? = some (.cells #[.slice Ab nl cb, .slice A len cap, .int .i64 (came : Int), .slice Ar nq cr, .bool over, .slice Ao no co, .int .u64 o, .int .u64 m, .bool s, .bool off, .int .u32 code] 65 (0, 0)) := hpost 6 (by omega)
    refine rj_lastv (by kernel_rfl) rfl (by kernel_rfl) rfl (by kernel_rfl) ?_
    have hsz9 : 9 < b.tmps.size := by rw [hsz]; exact of_decide_eq_true (by kernel_rfl)
    have g8 := (putd b 9 (.int .u32 r) 8 hsz9).trans ((if_neg (by decide)).trans k8)
    have g9 := (putd b 9 (.int .u32 r) 9 hsz9).trans (if_pos rfl)
    go_simp
    go_wp2_with fail
    refine bodyPost_ret ((results_cell_row_tmp rfl _ _ (B + 1) 65 _ (0, 0) _ g8 hfin Tryd.underlying65 rfl (by kernel_rfl)).trans (congrArg (fun z => Result.ok (Value.tuple #[_, z]) W') g9)) rfl ?_
    obtain ⟨e1, e2, e3⟩ := HN.out
    refine ⟨_, rfl, ?_⟩
    rw [← e1, ← e2, ← e3]
    exact vbus_fin HBS.out V4.out V5.out V6.out B2.out (.of_only hinv.1 (.inr rfl))
set_option maxRecDepth 100000 in
set_option maxHeartbeats 8000000 in
theorem rload_off (w : World) (X : Nat → Prop) (A : Option Addr) (len cap : Nat) (v : Value) (l : List Int) (came : Nat) (q : List Int) (over : Bool) (out : List Int) (o m : Int) (s off : Bool) (code : Int) (mm t : Int) (hV : VBus w X A len cap v l came q over out o m s off code) (hl : l.length ≤ 65536)
    (hc : mimesisref14_Class.f 1 l 1048576 mm = some 2) :
    Calls Tryd.prog 49 #[v, .int .u32 1048576, .int .i64 mm, .int .u64 t] w fun e w' => ∃ v', e = .returned (.tuple #[v', .int .u32 0]) ∧ VBus w' X A len cap v' l came q over out o m s off code ∧ Below w.heap.size w w' := by
  obtain ⟨Ab, cb, Ar, cr, Ao, co, rfl, h1, h2, h3⟩ := hV
  have HS := Aside0.mk (bus_start w X h1 h2 h3 #[.slice Ab l.length cb, .slice A len cap, .int .i64 (came : Int), .slice Ar q.length cr, .bool over, .slice Ao out.length co, .int .u64 o, .int .u64 m, .bool s, .bool off, .int .u32 code])
  obtain ⟨B, hB⟩ : ∃ B, w.heap.size = B := ⟨_, rfl⟩
  have HBS := Aside0.mk hB
  have HC := Aside0.mk hc
  have HL := Aside0.mk hl
  have hcb := h1.le
  obtain ⟨nl, hnl⟩ : ∃ nl, l.length = nl := ⟨_, rfl⟩
  obtain ⟨nq, hnq⟩ : ∃ nq, q.length = nq := ⟨_, rfl⟩
  obtain ⟨no, hno⟩ : ∃ no, out.length = no := ⟨_, rfl⟩
  rw [hnl, hnq, hno] at HS ⊢
  have HN := Aside0.mk (And.intro hnl (And.intro hnq hno))
  have HCB := Aside0.mk hcb
  clear hB hc hl h1 h2 h3 hcb hnl hnq hno
  go_enter Tryd.func49, Tryd.ntmps49
  go_upto_region 1 with fail
  generalize hW : World.alloc (World.alloc w _) _ = w1
  obtain ⟨⟨v1, v2, v3⟩, b1, t1⟩ := HS.out w1 hW.symm
  have V1 := Aside0.mk v1
  have V2 := Aside0.mk v2
  have V3 := Aside0.mk v3
  have B1 := Aside0.mk b1
  have T1 := Aside0.mk t1
  clear v1 v2 v3 b1 t1 hW HS
  have hBS := HBS.out
  rw [hBS] at T1 V1 V2 V3 ⊢
  clear hBS
  obtain ⟨c0, c1, c2, c3, c4, c5, c6, c7, c8, c9, c10⟩ := T1.out.cb
  have HCL : Aside0 (Calls Tryd.prog _ #[.slice Ab nl cb, .int .u32 1048576, .int .i64 mm] w1 _) := ⟨by
    have := mimesisref14_Class.calls 1 Ab cb l 1048576 mm 2 w1 (V1.out.C (by have := HL.out; omega)) HCB.out HC.out
    rw [HN.out.1] at this
    exact this⟩
  go_wp2_with fail
  refine HCL.out.mono ?_
  rintro e w2 ⟨rfl, hd⟩
  have V4 := Aside0.mk (V1.out.drawn hd)
  have V5 := Aside0.mk (V2.out.drawn hd)
  have V6 := Aside0.mk (V3.out.drawn hd)
  have B2 := Aside0.mk (below_on B1.out hd.below)
  have T2 := Aside0.mk (T1.out.below hd.below)
  clear hd HCL c0 c1 c2 c3 c4 c5 c6 c7 c8 c9 c10 V1 V2 V3 B1 T1
  have HTH := Aside0.mk (IGn.there (t := 65) (G := B + 1) (n := 11) (w0 := w2) (w := w2) ⟨Only.refl _ _, _, T2.out.r, rfl⟩)
  have FST := Aside0.mk (storeN T2.out.r (#[.slice Ab nl cb, .slice A len cap, .int .i64 (came : Int), .slice Ar nq cr, .bool over, .slice Ao no co, .int .u64 o, .int .u64 m, .bool s, .bool off, .int .u32 code] : Array Value).toList rfl)
  obtain ⟨c0, c1, c2, c3, c4, c5, c6, c7, c8, c9, c10⟩ := T2.out.cb
  go_wp2_with (refine wpList_store_mid rfl 65 (.tmp 8) (.tmp 26) rfl (B + 1) 0 #[.slice Ab nl cb, .slice A len cap, .int .i64 (came : Int), .slice Ar nq cr, .bool over, .slice Ao no co, .int .u64 o, .int .u64 m, .bool s, .bool off, .int .u32 code] rfl rfl HTH.out (by kernel_rfl) (by simp [Value.oneCell']) ?_; refine Aside0.out (?_ : Aside0 _))
  refine ⟨?_⟩
  obtain ⟨w9, hw9⟩ : ∃ w9, w2.setCells (B + 1) 0 (#[.slice Ab nl cb, .slice A len cap, .int .i64 (came : Int), .slice Ar nq cr, .bool over, .slice Ao no co, .int .u64 o, .int .u64 m, .bool s, .bool off, .int .u32 code] : Array Value).toList = w9 := ⟨_, rfl⟩
  rw [hw9] at FST ⊢
  clear hw9 c0 c1 c2 c3 c4 c5 c6 c7 c8 c9 c10
  go_wp2_with fail
  refine bodyPost_ret (results_cell_row_tmp rfl _ _ (B + 1) 65 _ (0, 0) _ rfl FST.out.1 Tryd.underlying65 rfl (by kernel_rfl)) rfl ?_
  obtain ⟨e1, e2, e3⟩ := HN.out
  refine ⟨_, rfl, ?_⟩
  rw [← e1, ← e2, ← e3]
  exact vbus_fin HBS.out V4.out V5.out V6.out B2.out (.of_only FST.out.2 (.inr rfl))
set_option maxRecDepth 100000 in
set_option maxHeartbeats 8000000 in
theorem rload_tim (w : World) (X : Nat → Prop) (A : Option Addr) (len cap : Nat) (v : Value) (l : List Int) (came : Nat) (q : List Int) (over : Bool) (out : List Int) (o m : Int) (s off : Bool) (code : Int) (a mm t r : Int) (hV : VBus w X A len cap v l came q over out o m s off code) (hl : l.length ≤ 65536)
    (hc : mimesisref14_Class.f 1 l a mm = some 2) (hne : a ≠ 1048576) (hh : mimesisref13_Has.f a = some true) (hr : mimesisref13_Read.f o m s a t = some r) :
    Calls Tryd.prog 49 #[v, .int .u32 a, .int .i64 mm, .int .u64 t] w fun e w' => ∃ v', e = .returned (.tuple #[v', .int .u32 r]) ∧ VBus w' X A len cap v' l came q over out o m s off code ∧ Below w.heap.size w w' := by
  obtain ⟨Ab, cb, Ar, cr, Ao, co, rfl, h1, h2, h3⟩ := hV
  have HS := Aside0.mk (bus_start w X h1 h2 h3 #[.slice Ab l.length cb, .slice A len cap, .int .i64 (came : Int), .slice Ar q.length cr, .bool over, .slice Ao out.length co, .int .u64 o, .int .u64 m, .bool s, .bool off, .int .u32 code])
  obtain ⟨B, hB⟩ : ∃ B, w.heap.size = B := ⟨_, rfl⟩
  have HBS := Aside0.mk hB
  have HC := Aside0.mk hc
  have HL := Aside0.mk hl
  have HLD := Aside0.mk hr
  have HNE := Aside0.mk hne
  have HHS := Aside0.mk hh
  have hcb := h1.le
  obtain ⟨nl, hnl⟩ : ∃ nl, l.length = nl := ⟨_, rfl⟩
  obtain ⟨nq, hnq⟩ : ∃ nq, q.length = nq := ⟨_, rfl⟩
  obtain ⟨no, hno⟩ : ∃ no, out.length = no := ⟨_, rfl⟩
  rw [hnl, hnq, hno] at HS ⊢
  have HN := Aside0.mk (And.intro hnl (And.intro hnq hno))
  have HCB := Aside0.mk hcb
  clear hB hc hl h1 h2 h3 hcb hnl hnq hno hr hne hh
  go_enter Tryd.func49, Tryd.ntmps49
  go_upto_region 1 with fail
  generalize hW : World.alloc (World.alloc w _) _ = w1
  obtain ⟨⟨v1, v2, v3⟩, b1, t1⟩ := HS.out w1 hW.symm
  have V1 := Aside0.mk v1
  have V2 := Aside0.mk v2
  have V3 := Aside0.mk v3
  have B1 := Aside0.mk b1
  have T1 := Aside0.mk t1
  clear v1 v2 v3 b1 t1 hW HS
  have hBS := HBS.out
  rw [hBS] at T1 V1 V2 V3 ⊢
  clear hBS
  obtain ⟨c0, c1, c2, c3, c4, c5, c6, c7, c8, c9, c10⟩ := T1.out.cb
  have HCL : Aside0 (Calls Tryd.prog _ #[.slice Ab nl cb, .int .u32 a, .int .i64 mm] w1 _) := ⟨by
    have := mimesisref14_Class.calls 1 Ab cb l a mm 2 w1 (V1.out.C (by have := HL.out; omega)) HCB.out HC.out
    rw [HN.out.1] at this
    exact this⟩
  go_wp2_with fail
  refine HCL.out.mono ?_
  rintro e w2 ⟨rfl, hd⟩
  have V4 := Aside0.mk (V1.out.drawn hd)
  have V5 := Aside0.mk (V2.out.drawn hd)
  have V6 := Aside0.mk (V3.out.drawn hd)
  have B2 := Aside0.mk (below_on B1.out hd.below)
  have T2 := Aside0.mk (T1.out.below hd.below)
  clear hd HCL c0 c1 c2 c3 c4 c5 c6 c7 c8 c9 c10 V1 V2 V3 B1 T1
  have hne' : (a == 1048576) = false := beq_eq_false_iff_ne.2 HNE.out
  go_wp2_with fail
  refine (mimesisref13_Has.calls a true _ HHS.out).mono ?_
  rintro e w3 ⟨rfl, hd⟩
  have V7 := Aside0.mk (V4.out.drawn hd)
  have V8 := Aside0.mk (V5.out.drawn hd)
  have V9 := Aside0.mk (V6.out.drawn hd)
  have B3 := Aside0.mk (below_on B2.out hd.below)
  have T3 := Aside0.mk (T2.out.below hd.below)
  clear hd V4 V5 V6 B2 T2
  go_wp2_with fail
  have HI0 : Aside0 (IGn 65 (B + 1) 11 w3 w3.drew) := ⟨(Only.refl (B + 1) w3).drew, _, T3.out.r, rfl⟩
  refine wp_region_rj (by kernel_rfl) 7 (fun W' => IGn 65 (B + 1) 11 w3 W') (RGn 65 (B + 1) #[.slice Ab nl cb, .slice A len cap, .int .i64 (came : Int), .slice Ar nq cr, .bool over, .slice Ao no co, .int .u64 o, .int .u64 m, .bool s, .bool off, .int .u32 code]) (fun i v w => match i with | 0 => v = .agg #[.slice Ab nl cb, .slice A len cap, .int .i64 (came : Int), .slice Ar nq cr, .bool over, .slice Ao no co, .int .u64 o, .int .u64 m, .bool s, .bool off, .int .u32 code] | 1 => v = .pointer (some ⟨B, 6, none⟩) | 2 => v = .agg #[.int .u64 o, .int .u64 m, .bool s] | 3 => v = .int .u32 a | 4 => v = .int .u64 t | 5 => v = .int .u32 r | 6 => FullN 65 (B + 1) #[.slice Ab nl cb, .slice A len cap, .int .i64 (came : Int), .slice Ar nq cr, .bool over, .slice Ao no co, .int .u64 o, .int .u64 m, .bool s, .bool off, .int .u32 code] w | _ => True) (by kernel_rfl) ?hR HI0.out ?step ?fin
  case hR =>
    intro j v w w' h k
    match j, h with
    | 0, h => exact h
    | 1, h => exact h
    | 2, h => exact h
    | 3, h => exact h
    | 4, h => exact h
    | 5, h => exact h
    | 6, h => exact k.2 h
    | _ + 7, h => trivial
  case step =>
    intro i op hi him b W' hinv hkeep hdef hpre K hK
    have HI := Aside0.mk hinv
    have HPRE := Aside0.mk hpre
    have HKEEP := Aside0.mk hkeep
    have HKK := Aside0.mk hK
    clear hinv hpre hkeep hK hdef
    have TB : W'.heap[B]? = some (.cells #[.slice Ab nl cb, .slice A len cap, .int .i64 (came : Int), .slice Ar nq cr, .bool over, .slice Ao no co, .int .u64 o, .int .u64 m, .bool s, .bool off, .int .u32 code] 65 (0, 0)) := blk_only T3.out.b HI.out.1 (by omega)
    obtain rfl | rfl | rfl | rfl | rfl | rfl | rfl : i = 0 ∨ i = 1 ∨ i = 2 ∨ i = 3 ∨ i = 4 ∨ i = 5 ∨ i = 6 := by omega
    · cases hi
      have e4 : b.tmps.getD 4 undef = .pointer (some ⟨B, 0, none⟩) := HKEEP.out 4 (by kernel_rfl)
      have c0 : W'.cell? ⟨B, 0, none⟩ = some (.slice Ab nl cb) := (blk_cell TB 0).trans rfl
      have c1 : W'.cell? ⟨B, 1, none⟩ = some (.slice A len cap) := (blk_cell TB 1).trans rfl
      have c2 : W'.cell? ⟨B, 2, none⟩ = some (.int .i64 (came : Int)) := (blk_cell TB 2).trans rfl
      have c3 : W'.cell? ⟨B, 3, none⟩ = some (.slice Ar nq cr) := (blk_cell TB 3).trans rfl
      have c4 : W'.cell? ⟨B, 4, none⟩ = some (.bool over) := (blk_cell TB 4).trans rfl
      have c5 : W'.cell? ⟨B, 5, none⟩ = some (.slice Ao no co) := (blk_cell TB 5).trans rfl
      have c6 : W'.cell? ⟨B, 6, none⟩ = some (.int .u64 o) := (blk_cell TB 6).trans rfl
      have c7 : W'.cell? ⟨B, 7, none⟩ = some (.int .u64 m) := (blk_cell TB 7).trans rfl
      have c8 : W'.cell? ⟨B, 8, none⟩ = some (.bool s) := (blk_cell TB 8).trans rfl
      have c9 : W'.cell? ⟨B, 9, none⟩ = some (.bool off) := (blk_cell TB 9).trans rfl
      have c10 : W'.cell? ⟨B, 10, none⟩ = some (.int .u32 code) := (blk_cell TB 10).trans rfl
      rw [if_pos (by rfl)]
      go_simp
      exact HKK.out _ _ HI.out (RGn.refl _ _ _ _) (by first | rfl | (simp; done))
    · cases hi
      have e4 : b.tmps.getD 4 undef = .pointer (some ⟨B, 0, none⟩) := HKEEP.out 4 (by kernel_rfl)
      rw [if_pos (by rfl)]
      go_simp
      exact HKK.out _ _ HI.out (RGn.refl _ _ _ _) (by first | rfl | (simp; done))
    · cases hi
      have e30 : b.tmps.getD 30 undef = .pointer (some ⟨B, 6, none⟩) := HPRE.out 1 (by kernel_rfl) (by omega)
      have c6 : W'.cell? ⟨B, 6, none⟩ = some (.int .u64 o) := (blk_cell TB 6).trans rfl
      have c7 : W'.cell? ⟨B, 7, none⟩ = some (.int .u64 m) := (blk_cell TB 7).trans rfl
      have c8 : W'.cell? ⟨B, 8, none⟩ = some (.bool s) := (blk_cell TB 8).trans rfl
      rw [if_pos (by rfl)]
      go_simp
      exact HKK.out _ _ HI.out (RGn.refl _ _ _ _) (by first | rfl | (simp; done))
    · cases hi
      have e1 : b.tmps.getD 1 undef = .int .u32 a := HKEEP.out 1 (by kernel_rfl)
      rw [if_pos (by rfl)]
      go_simp
      exact HKK.out _ _ HI.out (RGn.refl _ _ _ _) (by first | rfl | (simp; done))
    · cases hi
      have e3 : b.tmps.getD 3 undef = .int .u64 t := HKEEP.out 3 (by kernel_rfl)
      rw [if_pos (by rfl)]
      go_simp
      exact HKK.out _ _ HI.out (RGn.refl _ _ _ _) (by first | rfl | (simp; done))
    · cases hi
      have e31 : b.tmps.getD 31 undef = .agg #[.int .u64 o, .int .u64 m, .bool s] := HPRE.out 2 (by kernel_rfl) (by omega)
      have e32 : b.tmps.getD 32 undef = .int .u32 a := HPRE.out 3 (by kernel_rfl) (by omega)
      have e33 : b.tmps.getD 33 undef = .int .u64 t := HPRE.out 4 (by kernel_rfl) (by omega)
      rw [if_pos (by rfl)]
      go_simp
      refine (mimesisref13_Read.calls o m s a t r W' HLD.out).mono ?_
      rintro e W2 ⟨rfl, d⟩
      exact HKK.out _ _ (HI.out.below d) (.of_below d) rfl
    · cases hi
      have e8 : b.tmps.getD 8 undef = .pointer (some ⟨B + 1, 0, none⟩) := HKEEP.out 8 (by kernel_rfl)
      have e29 : b.tmps.getD 29 undef = .agg #[.slice Ab nl cb, .slice A len cap, .int .i64 (came : Int), .slice Ar nq cr, .bool over, .slice Ao no co, .int .u64 o, .int .u64 m, .bool s, .bool off, .int .u32 code] := HPRE.out 0 (by kernel_rfl) (by omega)
      have hf := fill_n HI.out (#[.slice Ab nl cb, .slice A len cap, .int .i64 (came : Int), .slice Ar nq cr, .bool over, .slice Ao no co, .int .u64 o, .int .u64 m, .bool s, .bool off, .int .u32 code] : Array Value).toList rfl
      rw [if_pos (by rfl)]
      exact wp_store_mid 65 (.tmp 8) (.tmp 29) rfl (B + 1) 0 #[.slice Ab nl cb, .slice A len cap, .int .i64 (came : Int), .slice Ar nq cr, .bool over, .slice Ao no co, .int .u64 o, .int .u64 m, .bool s, .bool off, .int .u32 code] e8 e29 HI.out.there (by kernel_rfl) (by simp [Value.oneCell']) (HKK.out undef _ hf.1 hf.2.1 hf.2.2)
  case fin =>
    intro b W' hinv hsz hdef hkeep hpost
    have e34 : b.tmps.getD 34 undef = .int .u32 r := hpost 5 (by omega)
    have k8 : b.tmps.getD 8 undef = .pointer (some ⟨B + 1, 0, none⟩) := hkeep 8 (by kernel_rfl)
    have hfin : W'.heap[B + 1]? = some (.cells #[.slice Ab nl cb, .slice A len cap, .int .i64 (came : Int), .slice Ar nq cr, .bool over, .slice Ao no co, .int .u64 o, .int .u64 m, .bool s, .bool off, .int .u32 code] 65 (0, 0)) := hpost 6 (by omega)
    refine rj_lastv (by kernel_rfl) rfl (by kernel_rfl) rfl (by kernel_rfl) ?_
    have hsz9 : 9 < b.tmps.size := by rw [hsz]; exact of_decide_eq_true (by kernel_rfl)
    have g8 := (putd b 9 (.int .u32 r) 8 hsz9).trans ((if_neg (by decide)).trans k8)
    have g9 := (putd b 9 (.int .u32 r) 9 hsz9).trans (if_pos rfl)
    go_simp
    go_wp2_with fail
    refine bodyPost_ret ((results_cell_row_tmp rfl _ _ (B + 1) 65 _ (0, 0) _ g8 hfin Tryd.underlying65 rfl (by kernel_rfl)).trans (congrArg (fun z => Result.ok (Value.tuple #[_, z]) W') g9)) rfl ?_
    obtain ⟨e1, e2, e3⟩ := HN.out
    refine ⟨_, rfl, ?_⟩
    rw [← e1, ← e2, ← e3]
    exact vbus_fin HBS.out V7.out V8.out V9.out B3.out (.of_only hinv.1 (.inr rfl))
set_option maxRecDepth 100000 in
set_option maxHeartbeats 8000000 in
theorem rload_con0 (w : World) (X : Nat → Prop) (A : Option Addr) (len cap : Nat) (v : Value) (l : List Int) (came : Nat) (q : List Int) (over : Bool) (out : List Int) (o m : Int) (s off : Bool) (code : Int) (mm t : Int) (hV : VBus w X A len cap v l came q over out o m s off code) (hl : l.length ≤ 65536) (hq : (∀ x ∈ q, 0 ≤ x ∧ x < 256) ∧ q.length ≤ 16)
    (hc : mimesisref14_Class.f 1 l 268435456 mm = some 2) :
    Calls Tryd.prog 49 #[v, .int .u32 268435456, .int .i64 mm, .int .u64 t] w fun e w' => ∃ v', e = .returned (.tuple #[v', .int .u32 (q.headD 0)]) ∧ VBus w' X A len cap v' l came q.tail over out o m s off code ∧ Below w.heap.size w w' := by
  have HQ := Aside0.mk hq
  clear hq
  obtain ⟨rd, hrd⟩ : ∃ rd : Int, q.headD 0 = rd := ⟨_, rfl⟩
  have HRDE := Aside0.mk hrd
  rw [hrd]
  clear hrd
  obtain ⟨Ab, cb, Ar, cr, Ao, co, rfl, h1, h2, h3⟩ := hV
  have HS := Aside0.mk (bus_start w X h1 h2 h3 #[.slice Ab l.length cb, .slice A len cap, .int .i64 (came : Int), .slice Ar q.length cr, .bool over, .slice Ao out.length co, .int .u64 o, .int .u64 m, .bool s, .bool off, .int .u32 code])
  obtain ⟨B, hB⟩ : ∃ B, w.heap.size = B := ⟨_, rfl⟩
  have HBS := Aside0.mk hB
  have HC := Aside0.mk hc
  have HL := Aside0.mk hl
  have hcb := h1.le
  obtain ⟨nl, hnl⟩ : ∃ nl, l.length = nl := ⟨_, rfl⟩
  obtain ⟨nq, hnq⟩ : ∃ nq, q.length = nq := ⟨_, rfl⟩
  obtain ⟨no, hno⟩ : ∃ no, out.length = no := ⟨_, rfl⟩
  rw [hnl, hnq, hno] at HS ⊢
  have HN := Aside0.mk (And.intro hnl (And.intro hnq hno))
  have HCB := Aside0.mk hcb
  clear hB hc hl h1 h2 h3 hcb hnl hnq hno
  go_enter Tryd.func49, Tryd.ntmps49
  go_upto_region 1 with fail
  generalize hW : World.alloc (World.alloc w _) _ = w1
  obtain ⟨⟨v1, v2, v3⟩, b1, t1⟩ := HS.out w1 hW.symm
  have V1 := Aside0.mk v1
  have V2 := Aside0.mk v2
  have V3 := Aside0.mk v3
  have B1 := Aside0.mk b1
  have T1 := Aside0.mk t1
  clear v1 v2 v3 b1 t1 hW HS
  have hBS := HBS.out
  rw [hBS] at T1 V1 V2 V3 ⊢
  clear hBS
  obtain ⟨c0, c1, c2, c3, c4, c5, c6, c7, c8, c9, c10⟩ := T1.out.cb
  have HCL : Aside0 (Calls Tryd.prog _ #[.slice Ab nl cb, .int .u32 268435456, .int .i64 mm] w1 _) := ⟨by
    have := mimesisref14_Class.calls 1 Ab cb l 268435456 mm 2 w1 (V1.out.C (by have := HL.out; omega)) HCB.out HC.out
    rw [HN.out.1] at this
    exact this⟩
  go_wp2_with fail
  refine HCL.out.mono ?_
  rintro e w2 ⟨rfl, hd⟩
  have V4 := Aside0.mk (V1.out.drawn hd)
  have V5 := Aside0.mk (V2.out.drawn hd)
  have V6 := Aside0.mk (V3.out.drawn hd)
  have B2 := Aside0.mk (below_on B1.out hd.below)
  have T2 := Aside0.mk (T1.out.below hd.below)
  clear hd HCL c0 c1 c2 c3 c4 c5 c6 c7 c8 c9 c10 V1 V2 V3 B1 T1
  have HHS : Aside0 (mimesisref13_Has.f 268435456 = some false) := ⟨by kernel_rfl⟩
  go_wp2_with fail
  refine (mimesisref13_Has.calls 268435456 false _ HHS.out).mono ?_
  rintro e w3 ⟨rfl, hd⟩
  have V7 := Aside0.mk (V4.out.drawn hd)
  have V8 := Aside0.mk (V5.out.drawn hd)
  have V9 := Aside0.mk (V6.out.drawn hd)
  have B3 := Aside0.mk (below_on B2.out hd.below)
  have T3 := Aside0.mk (T2.out.below hd.below)
  clear hd V4 V5 V6 B2 T2
  obtain ⟨c0, c1, c2, c3, c4, c5, c6, c7, c8, c9, c10⟩ := T3.out.cb
  have HRD : Aside0 (Calls Tryd.prog _ #[.agg #[.slice A len cap, .int .i64 (came : Int), .slice Ar nq cr, .bool over, .slice Ao no co], .int .i64 0] w3 fun e w' => ∃ v', e = .returned (.tuple #[v', .int .u32 rd]) ∧ VC w' (XB X B) A len cap v' came q.tail over out ∧ Below w3.heap.size w3 w') := ⟨by
    obtain ⟨e1, e2, e3⟩ := HN.out
    have := rread0_calls w3 (XB X B) A len cap came q over out (.agg #[.slice A len cap, .int .i64 (came : Int), .slice Ar nq cr, .bool over, .slice Ao no co]) ⟨Ar, cr, Ao, co, by rw [e2, e3], V8.out, V9.out⟩ HQ.out.2 HQ.out.1
    rw [HRDE.out] at this
    exact this⟩
  go_wp2_with fail
  refine HRD.out.mono ?_
  rintro e w4 ⟨v', rfl, ⟨Ar2, cr2, Ao2, co2, rfl, hv2, hv3⟩, hb4⟩
  have V10 := Aside0.mk (V7.out.below hb4)
  have V11 := Aside0.mk hv2
  have V12 := Aside0.mk hv3
  have B4 := Aside0.mk (below_on B3.out hb4)
  have T4 := Aside0.mk (T3.out.below hb4)
  obtain ⟨nq2, hnq2⟩ : ∃ n, (q.tail).length = n := ⟨_, rfl⟩
  have HN2 := Aside0.mk hnq2
  rw [hnq2, HN.out.2.2]
  clear hv2 hv3 hb4 hnq2 V7 V8 V9 B3 T3 HRD c0 c1 c2 c3 c4 c5 c6 c7 c8 c9 c10
  have HTH := Aside0.mk (IGn.there (t := 60) (G := w4.heap.size) (n := 5) (w0 := w4.alloc (.cells #[.slice none 0 0, .int .i64 0, .slice none 0 0, .bool false, .slice none 0 0] 60)) ⟨Only.refl _ _, _, blk_new w4 _, rfl⟩)
  have FS1 := Aside0.mk (storeN (blk_new w4 (.cells #[.slice none 0 0, .int .i64 0, .slice none 0 0, .bool false, .slice none 0 0] 60)) (#[.slice A len cap, .int .i64 (came : Int), .slice Ar2 nq2 cr2, .bool over, .slice Ao2 no co2] : Array Value).toList rfl)
  go_wp2_with (refine wpList_store_mid rfl 60 (.tmp 10) (.tmp 42) rfl w4.heap.size 0 #[.slice A len cap, .int .i64 (came : Int), .slice Ar2 nq2 cr2, .bool over, .slice Ao2 no co2] rfl rfl HTH.out (by kernel_rfl) (by simp [Value.oneCell']) ?_; refine Aside0.out (?_ : Aside0 _))
  refine ⟨?_⟩
  obtain ⟨w5, hw5⟩ : ∃ w5, (w4.alloc (.cells #[.slice none 0 0, .int .i64 0, .slice none 0 0, .bool false, .slice none 0 0] 60)).setCells w4.heap.size 0 (#[.slice A len cap, .int .i64 (came : Int), .slice Ar2 nq2 cr2, .bool over, .slice Ao2 no co2] : Array Value).toList = w5 := ⟨_, rfl⟩
  rw [hw5] at FS1 ⊢
  have hb5 : Below w4.heap.size w4 w5 := fresh_below FS1.out.2
  have V13 := Aside0.mk (V10.out.below hb5)
  have V14 := Aside0.mk (V11.out.below hb5)
  have V15 := Aside0.mk (V12.out.below hb5)
  have B5 := Aside0.mk (below_on B4.out hb5)
  have T5 := Aside0.mk (T4.out.below hb5)
  obtain ⟨G, hG⟩ : ∃ G, w4.heap.size = G := ⟨_, rfl⟩
  rw [hG] at FS1 ⊢
  have g0 : w5.cell? ⟨G, 0, none⟩ = some (.slice A len cap) := (blk_cell FS1.out.1 0).trans rfl
  have g1 : w5.cell? ⟨G, 1, none⟩ = some (.int .i64 (came : Int)) := (blk_cell FS1.out.1 1).trans rfl
  have g2 : w5.cell? ⟨G, 2, none⟩ = some (.slice Ar2 nq2 cr2) := (blk_cell FS1.out.1 2).trans rfl
  have g3 : w5.cell? ⟨G, 3, none⟩ = some (.bool over) := (blk_cell FS1.out.1 3).trans rfl
  have g4 : w5.cell? ⟨G, 4, none⟩ = some (.slice Ao2 no co2) := (blk_cell FS1.out.1 4).trans rfl
  have HTH2 := Aside0.mk (there_mid T5.out.b 1 5 (by simp))
  have FST2 : Aside0 ((w5.setCells B 1 (#[.slice A len cap, .int .i64 (came : Int), .slice Ar2 nq2 cr2, .bool over, .slice Ao2 no co2] : Array Value).toList).heap[B]? = some (.cells #[.slice Ab nl cb, .slice A len cap, .int .i64 (came : Int), .slice Ar2 nq2 cr2, .bool over, .slice Ao2 no co2, .int .u64 o, .int .u64 m, .bool s, .bool off, .int .u32 code] 65 (0, 0)) ∧ Only B w5 (w5.setCells B 1 (#[.slice A len cap, .int .i64 (came : Int), .slice Ar2 nq2 cr2, .bool over, .slice Ao2 no co2] : Array Value).toList)) := ⟨(blk_setCells _ 1 _ _ T5.out.b).trans (by kernel_rfl), only_setCells _ _ _⟩
  clear hb5 hw5 HTH V10 V11 V12 B4 T4 hG
  go_wp2_with (refine wpList_store_mid rfl 60 (.tmp 45) (.tmp 44) rfl B 1 #[.slice A len cap, .int .i64 (came : Int), .slice Ar2 nq2 cr2, .bool over, .slice Ao2 no co2] rfl rfl HTH2.out (by kernel_rfl) (by simp [Value.oneCell']) ?_; refine Aside0.out (?_ : Aside0 _))
  refine ⟨?_⟩
  obtain ⟨w6, hw6⟩ : ∃ w6, w5.setCells B 1 (#[.slice A len cap, .int .i64 (came : Int), .slice Ar2 nq2 cr2, .bool over, .slice Ao2 no co2] : Array Value).toList = w6 := ⟨_, rfl⟩
  rw [hw6] at FST2 ⊢
  have T6 : Aside0 (TwoB w6 B #[.slice Ab nl cb, .slice A len cap, .int .i64 (came : Int), .slice Ar2 nq2 cr2, .bool over, .slice Ao2 no co2, .int .u64 o, .int .u64 m, .bool s, .bool off, .int .u32 code] zero11) := ⟨⟨FST2.out.1, blk_only T5.out.r FST2.out.2 (by omega)⟩⟩
  clear g0 g1 g2 g3 g4 hw6 HTH2 T5 FS1
  have HTH := Aside0.mk (IGn.there (t := 65) (G := B + 1) (n := 11) (w0 := w6) (w := w6) ⟨Only.refl _ _, _, T6.out.r, rfl⟩)
  have FST := Aside0.mk (storeN T6.out.r (#[.slice Ab nl cb, .slice A len cap, .int .i64 (came : Int), .slice Ar2 nq2 cr2, .bool over, .slice Ao2 no co2, .int .u64 o, .int .u64 m, .bool s, .bool off, .int .u32 code] : Array Value).toList rfl)
  obtain ⟨c0, c1, c2, c3, c4, c5, c6, c7, c8, c9, c10⟩ := T6.out.cb
  go_wp2_with (refine wpList_store_mid rfl 65 (.tmp 8) (.tmp 46) rfl (B + 1) 0 #[.slice Ab nl cb, .slice A len cap, .int .i64 (came : Int), .slice Ar2 nq2 cr2, .bool over, .slice Ao2 no co2, .int .u64 o, .int .u64 m, .bool s, .bool off, .int .u32 code] rfl rfl HTH.out (by kernel_rfl) (by simp [Value.oneCell']) ?_; refine Aside0.out (?_ : Aside0 _))
  refine ⟨?_⟩
  obtain ⟨w9, hw9⟩ : ∃ w9, w6.setCells (B + 1) 0 (#[.slice Ab nl cb, .slice A len cap, .int .i64 (came : Int), .slice Ar2 nq2 cr2, .bool over, .slice Ao2 no co2, .int .u64 o, .int .u64 m, .bool s, .bool off, .int .u32 code] : Array Value).toList = w9 := ⟨_, rfl⟩
  rw [hw9] at FST ⊢
  clear hw9 c0 c1 c2 c3 c4 c5 c6 c7 c8 c9 c10
  go_wp2_with fail
  refine bodyPost_ret (results_cell_row_tmp rfl _ _ (B + 1) 65 _ (0, 0) _ rfl FST.out.1 Tryd.underlying65 rfl (by kernel_rfl)) rfl ?_
  obtain ⟨e1, e2, e3⟩ := HN.out
  refine ⟨_, rfl, ?_⟩
  rw [← e1, ← HN2.out, ← e3]
  exact vbus_fin HBS.out V13.out V14.out V15.out B5.out ((OnlyP.of_only FST2.out.2 (.inl rfl)).trans (.of_only FST.out.2 (.inr rfl)))
set_option maxRecDepth 100000 in
set_option maxHeartbeats 8000000 in
theorem rload_con4 (w : World) (X : Nat → Prop) (A : Option Addr) (len cap : Nat) (v : Value) (l : List Int) (came : Nat) (q : List Int) (over : Bool) (out : List Int) (o m : Int) (s off : Bool) (code : Int) (mm t : Int) (hV : VBus w X A len cap v l came q over out o m s off code) (hl : l.length ≤ 65536) (hq : q.length ≤ 16)
    (hc : mimesisref14_Class.f 1 l 268435460 mm = some 2) :
    Calls Tryd.prog 49 #[v, .int .u32 268435460, .int .i64 mm, .int .u64 t] w fun e w' => ∃ v', e = .returned (.tuple #[v', .int .u32 ((if 0 < q.length then 1 else 0) + (if over then 2 else 0))]) ∧ VBus w' X A len cap v' l came q over out o m s off code ∧ Below w.heap.size w w' := by
  have HQ := Aside0.mk hq
  clear hq
  obtain ⟨rd, hrd⟩ : ∃ rd : Int, ((if 0 < q.length then 1 else 0) + (if over then 2 else 0) : Int) = rd := ⟨_, rfl⟩
  have HRDE := Aside0.mk hrd
  rw [hrd]
  clear hrd
  obtain ⟨Ab, cb, Ar, cr, Ao, co, rfl, h1, h2, h3⟩ := hV
  have HS := Aside0.mk (bus_start w X h1 h2 h3 #[.slice Ab l.length cb, .slice A len cap, .int .i64 (came : Int), .slice Ar q.length cr, .bool over, .slice Ao out.length co, .int .u64 o, .int .u64 m, .bool s, .bool off, .int .u32 code])
  obtain ⟨B, hB⟩ : ∃ B, w.heap.size = B := ⟨_, rfl⟩
  have HBS := Aside0.mk hB
  have HC := Aside0.mk hc
  have HL := Aside0.mk hl
  have hcb := h1.le
  obtain ⟨nl, hnl⟩ : ∃ nl, l.length = nl := ⟨_, rfl⟩
  obtain ⟨nq, hnq⟩ : ∃ nq, q.length = nq := ⟨_, rfl⟩
  obtain ⟨no, hno⟩ : ∃ no, out.length = no := ⟨_, rfl⟩
  rw [hnl, hnq, hno] at HS ⊢
  have HN := Aside0.mk (And.intro hnl (And.intro hnq hno))
  have HCB := Aside0.mk hcb
  clear hB hc hl h1 h2 h3 hcb hnl hnq hno
  go_enter Tryd.func49, Tryd.ntmps49
  go_upto_region 1 with fail
  generalize hW : World.alloc (World.alloc w _) _ = w1
  obtain ⟨⟨v1, v2, v3⟩, b1, t1⟩ := HS.out w1 hW.symm
  have V1 := Aside0.mk v1
  have V2 := Aside0.mk v2
  have V3 := Aside0.mk v3
  have B1 := Aside0.mk b1
  have T1 := Aside0.mk t1
  clear v1 v2 v3 b1 t1 hW HS
  have hBS := HBS.out
  rw [hBS] at T1 V1 V2 V3 ⊢
  clear hBS
  obtain ⟨c0, c1, c2, c3, c4, c5, c6, c7, c8, c9, c10⟩ := T1.out.cb
  have HCL : Aside0 (Calls Tryd.prog _ #[.slice Ab nl cb, .int .u32 268435460, .int .i64 mm] w1 _) := ⟨by
    have := mimesisref14_Class.calls 1 Ab cb l 268435460 mm 2 w1 (V1.out.C (by have := HL.out; omega)) HCB.out HC.out
    rw [HN.out.1] at this
    exact this⟩
  go_wp2_with fail
  refine HCL.out.mono ?_
  rintro e w2 ⟨rfl, hd⟩
  have V4 := Aside0.mk (V1.out.drawn hd)
  have V5 := Aside0.mk (V2.out.drawn hd)
  have V6 := Aside0.mk (V3.out.drawn hd)
  have B2 := Aside0.mk (below_on B1.out hd.below)
  have T2 := Aside0.mk (T1.out.below hd.below)
  clear hd HCL c0 c1 c2 c3 c4 c5 c6 c7 c8 c9 c10 V1 V2 V3 B1 T1
  have HHS : Aside0 (mimesisref13_Has.f 268435460 = some false) := ⟨by kernel_rfl⟩
  go_wp2_with fail
  refine (mimesisref13_Has.calls 268435460 false _ HHS.out).mono ?_
  rintro e w3 ⟨rfl, hd⟩
  have V7 := Aside0.mk (V4.out.drawn hd)
  have V8 := Aside0.mk (V5.out.drawn hd)
  have V9 := Aside0.mk (V6.out.drawn hd)
  have B3 := Aside0.mk (below_on B2.out hd.below)
  have T3 := Aside0.mk (T2.out.below hd.below)
  clear hd V4 V5 V6 B2 T2
  obtain ⟨c0, c1, c2, c3, c4, c5, c6, c7, c8, c9, c10⟩ := T3.out.cb
  have HRD : Aside0 (Calls Tryd.prog _ #[.agg #[.slice A len cap, .int .i64 (came : Int), .slice Ar nq cr, .bool over, .slice Ao no co], .int .i64 4] w3 fun e w' => ∃ v', e = .returned (.tuple #[v', .int .u32 rd]) ∧ VC w' (XB X B) A len cap v' came q over out ∧ Below w3.heap.size w3 w') := ⟨by
    obtain ⟨e1, e2, e3⟩ := HN.out
    have := rread4_calls w3 (XB X B) A len cap came q over out (.agg #[.slice A len cap, .int .i64 (came : Int), .slice Ar nq cr, .bool over, .slice Ao no co]) ⟨Ar, cr, Ao, co, by rw [e2, e3], V8.out, V9.out⟩ HQ.out
    rw [HRDE.out] at this
    exact this⟩
  go_wp2_with fail
  refine HRD.out.mono ?_
  rintro e w4 ⟨v', rfl, ⟨Ar2, cr2, Ao2, co2, rfl, hv2, hv3⟩, hb4⟩
  have V10 := Aside0.mk (V7.out.below hb4)
  have V11 := Aside0.mk hv2
  have V12 := Aside0.mk hv3
  have B4 := Aside0.mk (below_on B3.out hb4)
  have T4 := Aside0.mk (T3.out.below hb4)
  obtain ⟨nq2, hnq2⟩ : ∃ n, (q).length = n := ⟨_, rfl⟩
  have HN2 := Aside0.mk hnq2
  rw [hnq2, HN.out.2.2]
  clear hv2 hv3 hb4 hnq2 V7 V8 V9 B3 T3 HRD c0 c1 c2 c3 c4 c5 c6 c7 c8 c9 c10
  have HTH := Aside0.mk (IGn.there (t := 60) (G := w4.heap.size) (n := 5) (w0 := w4.alloc (.cells #[.slice none 0 0, .int .i64 0, .slice none 0 0, .bool false, .slice none 0 0] 60)) ⟨Only.refl _ _, _, blk_new w4 _, rfl⟩)
  have FS1 := Aside0.mk (storeN (blk_new w4 (.cells #[.slice none 0 0, .int .i64 0, .slice none 0 0, .bool false, .slice none 0 0] 60)) (#[.slice A len cap, .int .i64 (came : Int), .slice Ar2 nq2 cr2, .bool over, .slice Ao2 no co2] : Array Value).toList rfl)
  go_wp2_with (refine wpList_store_mid rfl 60 (.tmp 10) (.tmp 42) rfl w4.heap.size 0 #[.slice A len cap, .int .i64 (came : Int), .slice Ar2 nq2 cr2, .bool over, .slice Ao2 no co2] rfl rfl HTH.out (by kernel_rfl) (by simp [Value.oneCell']) ?_; refine Aside0.out (?_ : Aside0 _))
  refine ⟨?_⟩
  obtain ⟨w5, hw5⟩ : ∃ w5, (w4.alloc (.cells #[.slice none 0 0, .int .i64 0, .slice none 0 0, .bool false, .slice none 0 0] 60)).setCells w4.heap.size 0 (#[.slice A len cap, .int .i64 (came : Int), .slice Ar2 nq2 cr2, .bool over, .slice Ao2 no co2] : Array Value).toList = w5 := ⟨_, rfl⟩
  rw [hw5] at FS1 ⊢
  have hb5 : Below w4.heap.size w4 w5 := fresh_below FS1.out.2
  have V13 := Aside0.mk (V10.out.below hb5)
  have V14 := Aside0.mk (V11.out.below hb5)
  have V15 := Aside0.mk (V12.out.below hb5)
  have B5 := Aside0.mk (below_on B4.out hb5)
  have T5 := Aside0.mk (T4.out.below hb5)
  obtain ⟨G, hG⟩ : ∃ G, w4.heap.size = G := ⟨_, rfl⟩
  rw [hG] at FS1 ⊢
  have g0 : w5.cell? ⟨G, 0, none⟩ = some (.slice A len cap) := (blk_cell FS1.out.1 0).trans rfl
  have g1 : w5.cell? ⟨G, 1, none⟩ = some (.int .i64 (came : Int)) := (blk_cell FS1.out.1 1).trans rfl
  have g2 : w5.cell? ⟨G, 2, none⟩ = some (.slice Ar2 nq2 cr2) := (blk_cell FS1.out.1 2).trans rfl
  have g3 : w5.cell? ⟨G, 3, none⟩ = some (.bool over) := (blk_cell FS1.out.1 3).trans rfl
  have g4 : w5.cell? ⟨G, 4, none⟩ = some (.slice Ao2 no co2) := (blk_cell FS1.out.1 4).trans rfl
  have HTH2 := Aside0.mk (there_mid T5.out.b 1 5 (by simp))
  have FST2 : Aside0 ((w5.setCells B 1 (#[.slice A len cap, .int .i64 (came : Int), .slice Ar2 nq2 cr2, .bool over, .slice Ao2 no co2] : Array Value).toList).heap[B]? = some (.cells #[.slice Ab nl cb, .slice A len cap, .int .i64 (came : Int), .slice Ar2 nq2 cr2, .bool over, .slice Ao2 no co2, .int .u64 o, .int .u64 m, .bool s, .bool off, .int .u32 code] 65 (0, 0)) ∧ Only B w5 (w5.setCells B 1 (#[.slice A len cap, .int .i64 (came : Int), .slice Ar2 nq2 cr2, .bool over, .slice Ao2 no co2] : Array Value).toList)) := ⟨(blk_setCells _ 1 _ _ T5.out.b).trans (by kernel_rfl), only_setCells _ _ _⟩
  clear hb5 hw5 HTH V10 V11 V12 B4 T4 hG
  go_wp2_with (refine wpList_store_mid rfl 60 (.tmp 45) (.tmp 44) rfl B 1 #[.slice A len cap, .int .i64 (came : Int), .slice Ar2 nq2 cr2, .bool over, .slice Ao2 no co2] rfl rfl HTH2.out (by kernel_rfl) (by simp [Value.oneCell']) ?_; refine Aside0.out (?_ : Aside0 _))
  refine ⟨?_⟩
  obtain ⟨w6, hw6⟩ : ∃ w6, w5.setCells B 1 (#[.slice A len cap, .int .i64 (came : Int), .slice Ar2 nq2 cr2, .bool over, .slice Ao2 no co2] : Array Value).toList = w6 := ⟨_, rfl⟩
  rw [hw6] at FST2 ⊢
  have T6 : Aside0 (TwoB w6 B #[.slice Ab nl cb, .slice A len cap, .int .i64 (came : Int), .slice Ar2 nq2 cr2, .bool over, .slice Ao2 no co2, .int .u64 o, .int .u64 m, .bool s, .bool off, .int .u32 code] zero11) := ⟨⟨FST2.out.1, blk_only T5.out.r FST2.out.2 (by omega)⟩⟩
  clear g0 g1 g2 g3 g4 hw6 HTH2 T5 FS1
  have HTH := Aside0.mk (IGn.there (t := 65) (G := B + 1) (n := 11) (w0 := w6) (w := w6) ⟨Only.refl _ _, _, T6.out.r, rfl⟩)
  have FST := Aside0.mk (storeN T6.out.r (#[.slice Ab nl cb, .slice A len cap, .int .i64 (came : Int), .slice Ar2 nq2 cr2, .bool over, .slice Ao2 no co2, .int .u64 o, .int .u64 m, .bool s, .bool off, .int .u32 code] : Array Value).toList rfl)
  obtain ⟨c0, c1, c2, c3, c4, c5, c6, c7, c8, c9, c10⟩ := T6.out.cb
  go_wp2_with (refine wpList_store_mid rfl 65 (.tmp 8) (.tmp 46) rfl (B + 1) 0 #[.slice Ab nl cb, .slice A len cap, .int .i64 (came : Int), .slice Ar2 nq2 cr2, .bool over, .slice Ao2 no co2, .int .u64 o, .int .u64 m, .bool s, .bool off, .int .u32 code] rfl rfl HTH.out (by kernel_rfl) (by simp [Value.oneCell']) ?_; refine Aside0.out (?_ : Aside0 _))
  refine ⟨?_⟩
  obtain ⟨w9, hw9⟩ : ∃ w9, w6.setCells (B + 1) 0 (#[.slice Ab nl cb, .slice A len cap, .int .i64 (came : Int), .slice Ar2 nq2 cr2, .bool over, .slice Ao2 no co2, .int .u64 o, .int .u64 m, .bool s, .bool off, .int .u32 code] : Array Value).toList = w9 := ⟨_, rfl⟩
  rw [hw9] at FST ⊢
  clear hw9 c0 c1 c2 c3 c4 c5 c6 c7 c8 c9 c10
  go_wp2_with fail
  refine bodyPost_ret (results_cell_row_tmp rfl _ _ (B + 1) 65 _ (0, 0) _ rfl FST.out.1 Tryd.underlying65 rfl (by kernel_rfl)) rfl ?_
  obtain ⟨e1, e2, e3⟩ := HN.out
  refine ⟨_, rfl, ?_⟩
  rw [← e1, ← HN2.out, ← e3]
  exact vbus_fin HBS.out V13.out V14.out V15.out B5.out ((OnlyP.of_only FST2.out.2 (.inl rfl)).trans (.of_only FST.out.2 (.inr rfl)))
end Go.Proofs.YtdalboofhckobaaDoor

namespace Go.Proofs.YtdalboofhckobaaDoor
open Go Go.RowKit Go.Deep Go.Proofs.YtdalboofhckobaaDoorW.PrintWords Go.Proofs.YtdalboofhckobaaDoor.QBusPlays
set_option linter.unusedVariables false
set_option linter.unusedSimpArgs false

set_option maxRecDepth 100000 in
set_option maxHeartbeats 8000000 in
theorem rstore_mem (w : World) (X : Nat → Prop) (A : Option Addr) (len cap : Nat) (v : Value) (l : List Int) (came : Nat) (q : List Int) (over : Bool) (out : List Int) (o m : Int) (s off : Bool) (code : Int) (a mm x t : Int) (hV : VBus w X A len cap v l came q over out o m s off code) (hl : l.length ≤ 65536) (bs l2 : List Int) (hby : mimesisref01_Bytes.f 60 x mm = some bs) (hput : mimesisref10_Put.f l a bs = some l2) (hl2 : l2.length = l.length) (hXw : ∀ k, X k → k < w.heap.size)
    (hc : mimesisref14_Class.f 1 l a mm = some 1) :
    Calls Tryd.prog 50 #[v, .int .u32 a, .int .i64 mm, .int .u32 x, .int .u64 t] w fun e w' => ∃ v', e = .returned v' ∧ VBus w' X A len cap v' l2 came q over out o m s off code ∧ Below w.heap.size w w' := by
  have HXW := Aside0.mk hXw
  clear hXw
  obtain ⟨Ab, cb, Ar, cr, Ao, co, rfl, h1, h2, h3⟩ := hV
  have HS := Aside0.mk (bus_start w X h1 h2 h3 #[.slice Ab l.length cb, .slice A len cap, .int .i64 (came : Int), .slice Ar q.length cr, .bool over, .slice Ao out.length co, .int .u64 o, .int .u64 m, .bool s, .bool off, .int .u32 code])
  obtain ⟨B, hB⟩ : ∃ B, w.heap.size = B := ⟨_, rfl⟩
  have HBS := Aside0.mk hB
  have HC := Aside0.mk hc
  have HL := Aside0.mk hl
  have HBY := Aside0.mk hby
  have HPUT := Aside0.mk hput
  have HL2 := Aside0.mk hl2
  have hcb := h1.le
  obtain ⟨nl, hnl⟩ : ∃ nl, l.length = nl := ⟨_, rfl⟩
  obtain ⟨nq, hnq⟩ : ∃ nq, q.length = nq := ⟨_, rfl⟩
  obtain ⟨no, hno⟩ : ∃ no, out.length = no := ⟨_, rfl⟩
  rw [hnl, hnq, hno] at HS ⊢
  have HN := Aside0.mk (And.intro hnl (And.intro hnq hno))
  have HCB := Aside0.mk hcb
  clear hB hc hl h1 h2 h3 hcb hnl hnq hno hby hput hl2
  go_enter Tryd.func50, Tryd.ntmps50
  go_upto_region 1 with fail
  generalize hW : World.alloc (World.alloc w _) _ = w1
  obtain ⟨⟨v1, v2, v3⟩, b1, t1⟩ := HS.out w1 hW.symm
  have V1 := Aside0.mk v1
  have V2 := Aside0.mk v2
  have V3 := Aside0.mk v3
  have B1 := Aside0.mk b1
  have T1 := Aside0.mk t1
  clear v1 v2 v3 b1 t1 hW HS
  have hBS := HBS.out
  rw [hBS] at T1 V1 V2 V3 ⊢
  clear hBS
  obtain ⟨c0, c1, c2, c3, c4, c5, c6, c7, c8, c9, c10⟩ := T1.out.cb
  have HCL : Aside0 (Calls Tryd.prog _ #[.slice Ab nl cb, .int .u32 a, .int .i64 mm] w1 _) := ⟨by
    have := mimesisref14_Class.calls 1 Ab cb l a mm 1 w1 (V1.out.C (by have := HL.out; omega)) HCB.out HC.out
    rw [HN.out.1] at this
    exact this⟩
  go_wp2_with fail
  refine HCL.out.mono ?_
  rintro e w2 ⟨rfl, hd⟩
  have V4 := Aside0.mk (V1.out.drawn hd)
  have V5 := Aside0.mk (V2.out.drawn hd)
  have V6 := Aside0.mk (V3.out.drawn hd)
  have B2 := Aside0.mk (below_on B1.out hd.below)
  have T2 := Aside0.mk (T1.out.below hd.below)
  clear hd HCL c0 c1 c2 c3 c4 c5 c6 c7 c8 c9 c10 V1 V2 V3 B1 T1
  have HI0 : Aside0 (Below w2.heap.size w2 w2.drew) := ⟨⟨rfl, rfl, rfl, Nat.le_refl _, fun _ _ => rfl⟩⟩
  go_wp2_with fail
  refine wp_region_rjk (by kernel_rfl) 8 (fun W' => Below w2.heap.size w2 W') (fun _ x y => Below x.heap.size x y) (fun _ _ => false) (fun i v w => match i with | 0 => v = .pointer (some ⟨B, 0, none⟩) | 1 => v = .slice Ab nl cb | 2 => v = .int .u32 a | 3 => v = .int .u32 x | 4 => v = .int .i64 mm | 5 => ∃ A' c', v = .slice A' bs.length c' ∧ bs.length ≤ c' ∧ (Kd.int .u8).C w A' bs.length bs | 6 => ∃ A' c', v = .slice A' nl c' ∧ VR w (XB X B) A' c' l2 | 7 => v = .pointer (some ⟨B, 0, none⟩) | _ => True) (by kernel_rfl) ?hR HI0.out ?step ?fin
  case hR =>
    intro i j v w w' _ _ h k
    match j, h with
    | 0, h => exact h
    | 1, h => exact h
    | 2, h => exact h
    | 3, h => exact h
    | 4, h => exact h
    | 5, h => obtain ⟨A', c', h1, h2, h3⟩ := h; exact ⟨A', c', h1, h2, Kd.C_below h3 k⟩
    | 6, h => obtain ⟨A', c', h1, h2⟩ := h; exact ⟨A', c', h1, h2.below k⟩
    | 7, h => exact h
    | _ + 8, h => trivial
  case step =>
    intro i op hi him b W' hinv hkeep hdef hpre K hK
    have HI := Aside0.mk hinv
    have HPRE := Aside0.mk hpre
    have HKEEP := Aside0.mk hkeep
    have HKK := Aside0.mk hK
    clear hinv hpre hkeep hK hdef
    obtain rfl | rfl | rfl | rfl | rfl | rfl | rfl | rfl : i = 0 ∨ i = 1 ∨ i = 2 ∨ i = 3 ∨ i = 4 ∨ i = 5 ∨ i = 6 ∨ i = 7 := by omega
    · cases hi
      have e5 : b.tmps.getD 5 undef = .pointer (some ⟨B, 0, none⟩) := HKEEP.out 5 (by kernel_rfl)
      rw [if_pos (by rfl)]
      go_simp
      exact HKK.out _ _ HI.out (Below.refl _ _) (by first | rfl | (simp; done))
    · cases hi
      have e17 : b.tmps.getD 17 undef = .pointer (some ⟨B, 0, none⟩) := HPRE.out 0 (by kernel_rfl) (by omega) (by intros; rfl)
      have c0 : W'.cell? ⟨B, 0, none⟩ = some (.slice Ab nl cb) := (blk_cell (blk_below T2.out.b HI.out) 0).trans rfl
      rw [if_pos (by rfl)]
      go_simp
      exact HKK.out _ _ HI.out (Below.refl _ _) (by first | rfl | (simp; done))
    · cases hi
      have e1 : b.tmps.getD 1 undef = .int .u32 a := HKEEP.out 1 (by kernel_rfl)
      rw [if_pos (by rfl)]
      go_simp
      exact HKK.out _ _ HI.out (Below.refl _ _) (by first | rfl | (simp; done))
    · cases hi
      have e3 : b.tmps.getD 3 undef = .int .u32 x := HKEEP.out 3 (by kernel_rfl)
      rw [if_pos (by rfl)]
      go_simp
      exact HKK.out _ _ HI.out (Below.refl _ _) (by first | rfl | (simp; done))
    · cases hi
      have e2 : b.tmps.getD 2 undef = .int .i64 mm := HKEEP.out 2 (by kernel_rfl)
      rw [if_pos (by rfl)]
      go_simp
      exact HKK.out _ _ HI.out (Below.refl _ _) (by first | rfl | (simp; done))
    · cases hi
      have e20 : b.tmps.getD 20 undef = .int .u32 x := HPRE.out 3 (by kernel_rfl) (by omega) (by intros; rfl)
      have e21 : b.tmps.getD 21 undef = .int .i64 mm := HPRE.out 4 (by kernel_rfl) (by omega) (by intros; rfl)
      rw [if_pos (by rfl)]
      go_simp
      refine (mimesisref01_Bytes.calls 60 x mm bs W' HBY.out).mono ?_
      rintro e W2 ⟨v0, rfl, hR, d⟩
      obtain ⟨A', c', rfl, hl, hC⟩ := Kd.R_reads hR
      exact HKK.out _ _ (below_on HI.out d) d ⟨A', c', rfl, hl, hC⟩
    · cases hi
      have e18 : b.tmps.getD 18 undef = .slice Ab nl cb := HPRE.out 1 (by kernel_rfl) (by omega) (by intros; rfl)
      have e19 : b.tmps.getD 19 undef = .int .u32 a := HPRE.out 2 (by kernel_rfl) (by omega) (by intros; rfl)
      obtain ⟨A', c', e22, hl, hC⟩ := HPRE.out 5 (by kernel_rfl) (by omega) (by intros; rfl)
      have e22 : b.tmps.getD 22 undef = .slice A' bs.length c' := e22
      rw [if_pos (by rfl)]
      go_simp
      have HM := mimesisref10_Put.calls Ab cb l a A' c' bs l2 W' ((V4.out.below HI.out).C (by have := HL.out; omega)) HCB.out hC hl HPUT.out
      rw [HN.out.1] at HM
      refine HM.mono ?_
      rintro e W2 ⟨v0, rfl, hR, d⟩
      obtain ⟨A9, cc9, rfl, hv⟩ := VR.of_own (X := XB X B) (q := l2) (Kd.own_of_R hR) (fun k hk => by have := HI.out.size; have := blk_lt T2.out.r; rcases hk with h | h | h; have := HXW.out k h; have := HBS.out; omega; omega; omega)
      rw [HL2.out, HN.out.1]
      exact HKK.out _ _ (below_on HI.out d) d ⟨A9, cc9, rfl, hv⟩
    · cases hi
      have e5 : b.tmps.getD 5 undef = .pointer (some ⟨B, 0, none⟩) := HKEEP.out 5 (by kernel_rfl)
      rw [if_pos (by rfl)]
      go_simp
      exact HKK.out _ _ HI.out (Below.refl _ _) (by first | rfl | (simp; done))
  case fin =>
    intro b W' hinv hsz hdef hkeep hpost
    obtain ⟨A9, cc9, e23, hv2⟩ := hpost 6 (by omega) (by intros; rfl)
    have e23 : b.tmps.getD 23 undef = .slice A9 nl cc9 := e23
    have e24 : b.tmps.getD 24 undef = .pointer (some ⟨B, 0, none⟩) := hpost 7 (by omega) (by intros; rfl)
    have k5 : b.tmps.getD 5 undef = .pointer (some ⟨B, 0, none⟩) := hkeep 5 (by kernel_rfl)
    have k10 : b.tmps.getD 10 undef = .pointer (some ⟨B + 1, 0, none⟩) := hkeep 10 (by kernel_rfl)
    refine rj_lastv (by kernel_rfl) rfl (by kernel_rfl) rfl (by kernel_rfl) ?_
    obtain ⟨sl, hlit, hsl⟩ := act_let b 51 hsz
    rw [hdef] at hlit
    rw [← hsl] at e23 e24 k5 k10
    simp only [show List.range 51 = [0, 1, 2, 3, 4, 5, 6, 7, 8, 9, 10, 11, 12, 13, 14, 15, 16, 17, 18, 19, 20, 21, 22, 23, 24, 25, 26, 27, 28, 29, 30, 31, 32, 33, 34, 35, 36, 37, 38, 39, 40, 41, 42, 43, 44, 45, 46, 47, 48, 49, 50] from rfl, List.map_cons, List.map_nil, e23, e24, k5, k10] at hlit
    rw [hlit]
    have V7 := Aside0.mk hv2
    have V8 := Aside0.mk (V5.out.below hinv)
    have V9 := Aside0.mk (V6.out.below hinv)
    have B3 := Aside0.mk (below_on B2.out hinv)
    have T3 := Aside0.mk (T2.out.below hinv)
    have c0 : W'.cell? ⟨B, 0, none⟩ = some (.slice Ab nl cb) := (blk_cell T3.out.b 0).trans rfl
    have z0 : ∀ i, W'.frozen? ⟨B, i, none⟩ = false := blk_frozen T3.out.b
    have FST2 : Aside0 ((W'.setCell ⟨B, 0, none⟩ (.slice A9 nl cc9)).heap[B]? = some (.cells #[.slice A9 nl cc9, .slice A len cap, .int .i64 (came : Int), .slice Ar nq cr, .bool over, .slice Ao no co, .int .u64 o, .int .u64 m, .bool s, .bool off, .int .u32 code] 65 (0, 0)) ∧ Only B W' (W'.setCell ⟨B, 0, none⟩ (.slice A9 nl cc9))) := ⟨(blk_set T3.out.b 0 _).trans (by kernel_rfl), (Only.refl B W').setCell 0 _⟩
    clear hkeep hsz hdef e23 e24 k5 k10 hsl hlit hpost hinv hv2 V4 V5 V6 B2 T2
    go_simp
    obtain ⟨w6, hw6⟩ : ∃ w6, W'.setCell ⟨B, 0, none⟩ (.slice A9 nl cc9) = w6 := ⟨_, rfl⟩
    rw [hw6] at FST2 ⊢
    have T6 : Aside0 (TwoB w6 B #[.slice A9 nl cc9, .slice A len cap, .int .i64 (came : Int), .slice Ar nq cr, .bool over, .slice Ao no co, .int .u64 o, .int .u64 m, .bool s, .bool off, .int .u32 code] zero11) := ⟨⟨FST2.out.1, blk_only T3.out.r FST2.out.2 (by omega)⟩⟩
    clear hw6 c0 z0 T3
    have HTH := Aside0.mk (IGn.there (t := 65) (G := B + 1) (n := 11) (w0 := w6) (w := w6) ⟨Only.refl _ _, _, T6.out.r, rfl⟩)
    have FST := Aside0.mk (storeN T6.out.r (#[.slice A9 nl cc9, .slice A len cap, .int .i64 (came : Int), .slice Ar nq cr, .bool over, .slice Ao no co, .int .u64 o, .int .u64 m, .bool s, .bool off, .int .u32 code] : Array Value).toList rfl)
    obtain ⟨c0, c1, c2, c3, c4, c5, c6, c7, c8, c9, c10⟩ := T6.out.cb
    go_wp2_with (refine wpList_store_mid rfl 65 (.tmp 10) (.tmp 25) rfl (B + 1) 0 #[.slice A9 nl cc9, .slice A len cap, .int .i64 (came : Int), .slice Ar nq cr, .bool over, .slice Ao no co, .int .u64 o, .int .u64 m, .bool s, .bool off, .int .u32 code] rfl rfl HTH.out (by kernel_rfl) (by simp [Value.oneCell']) ?_; refine Aside0.out (?_ : Aside0 _))
    refine ⟨?_⟩
    obtain ⟨w9, hw9⟩ : ∃ w9, w6.setCells (B + 1) 0 (#[.slice A9 nl cc9, .slice A len cap, .int .i64 (came : Int), .slice Ar nq cr, .bool over, .slice Ao no co, .int .u64 o, .int .u64 m, .bool s, .bool off, .int .u32 code] : Array Value).toList = w9 := ⟨_, rfl⟩
    rw [hw9] at FST ⊢
    clear hw9 c0 c1 c2 c3 c4 c5 c6 c7 c8 c9 c10
    go_wp2_with fail
    refine bodyPost_ret (results_cell_row rfl _ _ (B + 1) 65 _ (0, 0) _ rfl FST.out.1 Tryd.underlying65 rfl (by kernel_rfl)) rfl ?_
    obtain ⟨e1, e2, e3⟩ := HN.out
    refine ⟨_, rfl, ?_⟩
    rw [← e1, ← e2, ← e3, ← HL2.out]
    exact vbus_fin HBS.out V7.out V8.out V9.out B3.out ((OnlyP.of_only FST2.out.2 (.inl rfl)).trans (.of_only FST.out.2 (.inr rfl)))
set_option maxRecDepth 100000 in
set_option maxHeartbeats 8000000 in
theorem rstore_off (w : World) (X : Nat → Prop) (A : Option Addr) (len cap : Nat) (v : Value) (l : List Int) (came : Nat) (q : List Int) (over : Bool) (out : List Int) (o m : Int) (s off : Bool) (code : Int) (mm x t : Int) (hV : VBus w X A len cap v l came q over out o m s off code) (hl : l.length ≤ 65536)
    (hc : mimesisref14_Class.f 1 l 1048576 mm = some 2) :
    Calls Tryd.prog 50 #[v, .int .u32 1048576, .int .i64 mm, .int .u32 x, .int .u64 t] w fun e w' => ∃ v', e = .returned v' ∧ VBus w' X A len cap v' l came q over out o m s true x ∧ Below w.heap.size w w' := by
  obtain ⟨Ab, cb, Ar, cr, Ao, co, rfl, h1, h2, h3⟩ := hV
  have HS := Aside0.mk (bus_start w X h1 h2 h3 #[.slice Ab l.length cb, .slice A len cap, .int .i64 (came : Int), .slice Ar q.length cr, .bool over, .slice Ao out.length co, .int .u64 o, .int .u64 m, .bool s, .bool off, .int .u32 code])
  obtain ⟨B, hB⟩ : ∃ B, w.heap.size = B := ⟨_, rfl⟩
  have HBS := Aside0.mk hB
  have HC := Aside0.mk hc
  have HL := Aside0.mk hl
  have hcb := h1.le
  obtain ⟨nl, hnl⟩ : ∃ nl, l.length = nl := ⟨_, rfl⟩
  obtain ⟨nq, hnq⟩ : ∃ nq, q.length = nq := ⟨_, rfl⟩
  obtain ⟨no, hno⟩ : ∃ no, out.length = no := ⟨_, rfl⟩
  rw [hnl, hnq, hno] at HS ⊢
  have HN := Aside0.mk (And.intro hnl (And.intro hnq hno))
  have HCB := Aside0.mk hcb
  clear hB hc hl h1 h2 h3 hcb hnl hnq hno
  go_enter Tryd.func50, Tryd.ntmps50
  go_upto_region 1 with fail
  generalize hW : World.alloc (World.alloc w _) _ = w1
  obtain ⟨⟨v1, v2, v3⟩, b1, t1⟩ := HS.out w1 hW.symm
  have V1 := Aside0.mk v1
  have V2 := Aside0.mk v2
  have V3 := Aside0.mk v3
  have B1 := Aside0.mk b1
  have T1 := Aside0.mk t1
  clear v1 v2 v3 b1 t1 hW HS
  have hBS := HBS.out
  rw [hBS] at T1 V1 V2 V3 ⊢
  clear hBS
  obtain ⟨c0, c1, c2, c3, c4, c5, c6, c7, c8, c9, c10⟩ := T1.out.cb
  have HCL : Aside0 (Calls Tryd.prog _ #[.slice Ab nl cb, .int .u32 1048576, .int .i64 mm] w1 _) := ⟨by
    have := mimesisref14_Class.calls 1 Ab cb l 1048576 mm 2 w1 (V1.out.C (by have := HL.out; omega)) HCB.out HC.out
    rw [HN.out.1] at this
    exact this⟩
  go_wp2_with fail
  refine HCL.out.mono ?_
  rintro e w2 ⟨rfl, hd⟩
  have V4 := Aside0.mk (V1.out.drawn hd)
  have V5 := Aside0.mk (V2.out.drawn hd)
  have V6 := Aside0.mk (V3.out.drawn hd)
  have B2 := Aside0.mk (below_on B1.out hd.below)
  have T2 := Aside0.mk (T1.out.below hd.below)
  clear hd HCL c0 c1 c2 c3 c4 c5 c6 c7 c8 c9 c10 V1 V2 V3 B1 T1
  obtain ⟨c0, c1, c2, c3, c4, c5, c6, c7, c8, c9, c10⟩ := T2.out.cb
  have z0 : ∀ i, w2.frozen? ⟨B, i, none⟩ = false := blk_frozen T2.out.b
  have FST2 : Aside0 (((w2.setCell ⟨B, 9, none⟩ (.bool true)).setCell ⟨B, 10, none⟩ (.int .u32 x)).heap[B]? = some (.cells #[.slice Ab nl cb, .slice A len cap, .int .i64 (came : Int), .slice Ar nq cr, .bool over, .slice Ao no co, .int .u64 o, .int .u64 m, .bool s, .bool true, .int .u32 x] 65 (0, 0)) ∧ Only B w2 ((w2.setCell ⟨B, 9, none⟩ (.bool true)).setCell ⟨B, 10, none⟩ (.int .u32 x))) := ⟨(blk_set (blk_set T2.out.b 9 _) 10 _).trans (by kernel_rfl), ((Only.refl B w2).setCell 9 _).setCell 10 _⟩
  go_upto_region 7 with fail
  obtain ⟨w6, hw6⟩ : ∃ w6, (w2.setCell ⟨B, 9, none⟩ (.bool true)).setCell ⟨B, 10, none⟩ (.int .u32 x) = w6 := ⟨_, rfl⟩
  rw [hw6] at FST2 ⊢
  have T6 : Aside0 (TwoB w6 B #[.slice Ab nl cb, .slice A len cap, .int .i64 (came : Int), .slice Ar nq cr, .bool over, .slice Ao no co, .int .u64 o, .int .u64 m, .bool s, .bool true, .int .u32 x] zero11) := ⟨⟨FST2.out.1, blk_only T2.out.r FST2.out.2 (by omega)⟩⟩
  clear hw6 c0 c1 c2 c3 c4 c5 c6 c7 c8 c9 c10 z0 T2
  have HTH := Aside0.mk (IGn.there (t := 65) (G := B + 1) (n := 11) (w0 := w6) (w := w6) ⟨Only.refl _ _, _, T6.out.r, rfl⟩)
  have FST := Aside0.mk (storeN T6.out.r (#[.slice Ab nl cb, .slice A len cap, .int .i64 (came : Int), .slice Ar nq cr, .bool over, .slice Ao no co, .int .u64 o, .int .u64 m, .bool s, .bool true, .int .u32 x] : Array Value).toList rfl)
  obtain ⟨c0, c1, c2, c3, c4, c5, c6, c7, c8, c9, c10⟩ := T6.out.cb
  go_wp2_with (refine wpList_store_mid rfl 65 (.tmp 10) (.tmp 31) rfl (B + 1) 0 #[.slice Ab nl cb, .slice A len cap, .int .i64 (came : Int), .slice Ar nq cr, .bool over, .slice Ao no co, .int .u64 o, .int .u64 m, .bool s, .bool true, .int .u32 x] rfl rfl HTH.out (by kernel_rfl) (by simp [Value.oneCell']) ?_; refine Aside0.out (?_ : Aside0 _))
  refine ⟨?_⟩
  obtain ⟨w9, hw9⟩ : ∃ w9, w6.setCells (B + 1) 0 (#[.slice Ab nl cb, .slice A len cap, .int .i64 (came : Int), .slice Ar nq cr, .bool over, .slice Ao no co, .int .u64 o, .int .u64 m, .bool s, .bool true, .int .u32 x] : Array Value).toList = w9 := ⟨_, rfl⟩
  rw [hw9] at FST ⊢
  clear hw9 c0 c1 c2 c3 c4 c5 c6 c7 c8 c9 c10
  go_wp2_with fail
  refine bodyPost_ret (results_cell_row rfl _ _ (B + 1) 65 _ (0, 0) _ rfl FST.out.1 Tryd.underlying65 rfl (by kernel_rfl)) rfl ?_
  obtain ⟨e1, e2, e3⟩ := HN.out
  refine ⟨_, rfl, ?_⟩
  rw [← e1, ← e2, ← e3]
  exact vbus_fin HBS.out V4.out V5.out V6.out B2.out ((OnlyP.of_only FST2.out.2 (.inl rfl)).trans (.of_only FST.out.2 (.inr rfl)))
set_option maxRecDepth 100000 in
set_option maxHeartbeats 8000000 in
theorem rstore_tim (w : World) (X : Nat → Prop) (A : Option Addr) (len cap : Nat) (v : Value) (l : List Int) (came : Nat) (q : List Int) (over : Bool) (out : List Int) (o m : Int) (s off : Bool) (code : Int) (a mm x t : Int) (hV : VBus w X A len cap v l came q over out o m s off code) (hl : l.length ≤ 65536) (o2 m2 : Int) (s2 : Bool) (hne : a ≠ 1048576) (hh : mimesisref13_Has.f a = some true) (hr : mimesisref13_Write.f o m s a x t = some (o2, m2, s2))
    (hc : mimesisref14_Class.f 1 l a mm = some 2) :
    Calls Tryd.prog 50 #[v, .int .u32 a, .int .i64 mm, .int .u32 x, .int .u64 t] w fun e w' => ∃ v', e = .returned v' ∧ VBus w' X A len cap v' l came q over out o2 m2 s2 off code ∧ Below w.heap.size w w' := by
  obtain ⟨Ab, cb, Ar, cr, Ao, co, rfl, h1, h2, h3⟩ := hV
  have HS := Aside0.mk (bus_start w X h1 h2 h3 #[.slice Ab l.length cb, .slice A len cap, .int .i64 (came : Int), .slice Ar q.length cr, .bool over, .slice Ao out.length co, .int .u64 o, .int .u64 m, .bool s, .bool off, .int .u32 code])
  obtain ⟨B, hB⟩ : ∃ B, w.heap.size = B := ⟨_, rfl⟩
  have HBS := Aside0.mk hB
  have HC := Aside0.mk hc
  have HL := Aside0.mk hl
  have HLD := Aside0.mk hr
  have HNE := Aside0.mk hne
  have HHS := Aside0.mk hh
  have hcb := h1.le
  obtain ⟨nl, hnl⟩ : ∃ nl, l.length = nl := ⟨_, rfl⟩
  obtain ⟨nq, hnq⟩ : ∃ nq, q.length = nq := ⟨_, rfl⟩
  obtain ⟨no, hno⟩ : ∃ no, out.length = no := ⟨_, rfl⟩
  rw [hnl, hnq, hno] at HS ⊢
  have HN := Aside0.mk (And.intro hnl (And.intro hnq hno))
  have HCB := Aside0.mk hcb
  clear hB hc hl h1 h2 h3 hcb hnl hnq hno hr hne hh
  go_enter Tryd.func50, Tryd.ntmps50
  go_upto_region 1 with fail
  generalize hW : World.alloc (World.alloc w _) _ = w1
  obtain ⟨⟨v1, v2, v3⟩, b1, t1⟩ := HS.out w1 hW.symm
  have V1 := Aside0.mk v1
  have V2 := Aside0.mk v2
  have V3 := Aside0.mk v3
  have B1 := Aside0.mk b1
  have T1 := Aside0.mk t1
  clear v1 v2 v3 b1 t1 hW HS
  have hBS := HBS.out
  rw [hBS] at T1 V1 V2 V3 ⊢
  clear hBS
  obtain ⟨c0, c1, c2, c3, c4, c5, c6, c7, c8, c9, c10⟩ := T1.out.cb
  have HCL : Aside0 (Calls Tryd.prog _ #[.slice Ab nl cb, .int .u32 a, .int .i64 mm] w1 _) := ⟨by
    have := mimesisref14_Class.calls 1 Ab cb l a mm 2 w1 (V1.out.C (by have := HL.out; omega)) HCB.out HC.out
    rw [HN.out.1] at this
    exact this⟩
  go_wp2_with fail
  refine HCL.out.mono ?_
  rintro e w2 ⟨rfl, hd⟩
  have V4 := Aside0.mk (V1.out.drawn hd)
  have V5 := Aside0.mk (V2.out.drawn hd)
  have V6 := Aside0.mk (V3.out.drawn hd)
  have B2 := Aside0.mk (below_on B1.out hd.below)
  have T2 := Aside0.mk (T1.out.below hd.below)
  clear hd HCL c0 c1 c2 c3 c4 c5 c6 c7 c8 c9 c10 V1 V2 V3 B1 T1
  have hne' : (a == 1048576) = false := beq_eq_false_iff_ne.2 HNE.out
  go_wp2_with fail
  refine (mimesisref13_Has.calls a true _ HHS.out).mono ?_
  rintro e w3 ⟨rfl, hd⟩
  have V7 := Aside0.mk (V4.out.drawn hd)
  have V8 := Aside0.mk (V5.out.drawn hd)
  have V9 := Aside0.mk (V6.out.drawn hd)
  have B3 := Aside0.mk (below_on B2.out hd.below)
  have T3 := Aside0.mk (T2.out.below hd.below)
  clear hd V4 V5 V6 B2 T2
  obtain ⟨c0, c1, c2, c3, c4, c5, c6, c7, c8, c9, c10⟩ := T3.out.cb
  go_wp2_with fail
  refine (mimesisref13_Write.calls o m s a x t o2 m2 s2 _ HLD.out).mono ?_
  rintro e w4 ⟨rfl, hd⟩
  have V10 := Aside0.mk (V7.out.below hd)
  have V11 := Aside0.mk (V8.out.below hd)
  have V12 := Aside0.mk (V9.out.below hd)
  have B4 := Aside0.mk (below_on B3.out hd)
  have T4 := Aside0.mk (T3.out.below hd)
  have HTH2 := Aside0.mk (there_mid T4.out.b 6 3 (by simp))
  have FST2 : Aside0 ((w4.setCells B 6 (#[.int .u64 o2, .int .u64 m2, .bool s2] : Array Value).toList).heap[B]? = some (.cells #[.slice Ab nl cb, .slice A len cap, .int .i64 (came : Int), .slice Ar nq cr, .bool over, .slice Ao no co, .int .u64 o2, .int .u64 m2, .bool s2, .bool off, .int .u32 code] 65 (0, 0)) ∧ Only B w4 (w4.setCells B 6 (#[.int .u64 o2, .int .u64 m2, .bool s2] : Array Value).toList)) := ⟨(blk_setCells _ 6 _ _ T4.out.b).trans (by kernel_rfl), only_setCells _ _ _⟩
  clear hd V7 V8 V9 B3 T3 c0 c1 c2 c3 c4 c5 c6 c7 c8 c9 c10
  go_wp2_with (refine wpList_store_mid rfl 62 (.tmp 40) (.tmp 39) rfl B 6 #[.int .u64 o2, .int .u64 m2, .bool s2] rfl rfl HTH2.out (by kernel_rfl) (by simp [Value.oneCell']) ?_; refine Aside0.out (?_ : Aside0 _))
  refine ⟨?_⟩
  obtain ⟨w6, hw6⟩ : ∃ w6, w4.setCells B 6 (#[.int .u64 o2, .int .u64 m2, .bool s2] : Array Value).toList = w6 := ⟨_, rfl⟩
  rw [hw6] at FST2 ⊢
  have T6 : Aside0 (TwoB w6 B #[.slice Ab nl cb, .slice A len cap, .int .i64 (came : Int), .slice Ar nq cr, .bool over, .slice Ao no co, .int .u64 o2, .int .u64 m2, .bool s2, .bool off, .int .u32 code] zero11) := ⟨⟨FST2.out.1, blk_only T4.out.r FST2.out.2 (by omega)⟩⟩
  clear hw6 HTH2 T4
  have HTH := Aside0.mk (IGn.there (t := 65) (G := B + 1) (n := 11) (w0 := w6) (w := w6) ⟨Only.refl _ _, _, T6.out.r, rfl⟩)
  have FST := Aside0.mk (storeN T6.out.r (#[.slice Ab nl cb, .slice A len cap, .int .i64 (came : Int), .slice Ar nq cr, .bool over, .slice Ao no co, .int .u64 o2, .int .u64 m2, .bool s2, .bool off, .int .u32 code] : Array Value).toList rfl)
  obtain ⟨c0, c1, c2, c3, c4, c5, c6, c7, c8, c9, c10⟩ := T6.out.cb
  go_wp2_with (refine wpList_store_mid rfl 65 (.tmp 10) (.tmp 41) rfl (B + 1) 0 #[.slice Ab nl cb, .slice A len cap, .int .i64 (came : Int), .slice Ar nq cr, .bool over, .slice Ao no co, .int .u64 o2, .int .u64 m2, .bool s2, .bool off, .int .u32 code] rfl rfl HTH.out (by kernel_rfl) (by simp [Value.oneCell']) ?_; refine Aside0.out (?_ : Aside0 _))
  refine ⟨?_⟩
  obtain ⟨w9, hw9⟩ : ∃ w9, w6.setCells (B + 1) 0 (#[.slice Ab nl cb, .slice A len cap, .int .i64 (came : Int), .slice Ar nq cr, .bool over, .slice Ao no co, .int .u64 o2, .int .u64 m2, .bool s2, .bool off, .int .u32 code] : Array Value).toList = w9 := ⟨_, rfl⟩
  rw [hw9] at FST ⊢
  clear hw9 c0 c1 c2 c3 c4 c5 c6 c7 c8 c9 c10
  go_wp2_with fail
  refine bodyPost_ret (results_cell_row rfl _ _ (B + 1) 65 _ (0, 0) _ rfl FST.out.1 Tryd.underlying65 rfl (by kernel_rfl)) rfl ?_
  obtain ⟨e1, e2, e3⟩ := HN.out
  refine ⟨_, rfl, ?_⟩
  rw [← e1, ← e2, ← e3]
  exact vbus_fin HBS.out V10.out V11.out V12.out B4.out ((OnlyP.of_only FST2.out.2 (.inl rfl)).trans (.of_only FST.out.2 (.inr rfl)))
set_option maxRecDepth 100000 in
set_option maxHeartbeats 8000000 in
theorem rstore_con0 (w : World) (X : Nat → Prop) (A : Option Addr) (len cap : Nat) (v : Value) (l : List Int) (came : Nat) (q : List Int) (over : Bool) (out : List Int) (o m : Int) (s off : Bool) (code : Int) (mm x t : Int) (hV : VBus w X A len cap v l came q over out o m s off code) (hl : l.length ≤ 65536) (hq : (∀ k, X k → k < w.heap.size) ∧ 0 ≤ x ∧ x < 4294967296 ∧ out.length ≤ 65536)
    (hc : mimesisref14_Class.f 1 l 268435456 mm = some 2) :
    Calls Tryd.prog 50 #[v, .int .u32 268435456, .int .i64 mm, .int .u32 x, .int .u64 t] w fun e w' => ∃ v', e = .returned v' ∧ VBus w' X A len cap v' l came q over (out ++ [x % 256]) o m s off code ∧ Below w.heap.size w w' := by
  have HQ := Aside0.mk hq
  clear hq
  obtain ⟨Ab, cb, Ar, cr, Ao, co, rfl, h1, h2, h3⟩ := hV
  have HS := Aside0.mk (bus_start w X h1 h2 h3 #[.slice Ab l.length cb, .slice A len cap, .int .i64 (came : Int), .slice Ar q.length cr, .bool over, .slice Ao out.length co, .int .u64 o, .int .u64 m, .bool s, .bool off, .int .u32 code])
  obtain ⟨B, hB⟩ : ∃ B, w.heap.size = B := ⟨_, rfl⟩
  have HBS := Aside0.mk hB
  have HC := Aside0.mk hc
  have HL := Aside0.mk hl
  have hcb := h1.le
  obtain ⟨nl, hnl⟩ : ∃ nl, l.length = nl := ⟨_, rfl⟩
  obtain ⟨nq, hnq⟩ : ∃ nq, q.length = nq := ⟨_, rfl⟩
  obtain ⟨no, hno⟩ : ∃ no, out.length = no := ⟨_, rfl⟩
  rw [hnl, hnq, hno] at HS ⊢
  have HN := Aside0.mk (And.intro hnl (And.intro hnq hno))
  have HCB := Aside0.mk hcb
  clear hB hc hl h1 h2 h3 hcb hnl hnq hno
  go_enter Tryd.func50, Tryd.ntmps50
  go_upto_region 1 with fail
  generalize hW : World.alloc (World.alloc w _) _ = w1
  obtain ⟨⟨v1, v2, v3⟩, b1, t1⟩ := HS.out w1 hW.symm
  have V1 := Aside0.mk v1
  have V2 := Aside0.mk v2
  have V3 := Aside0.mk v3
  have B1 := Aside0.mk b1
  have T1 := Aside0.mk t1
  clear v1 v2 v3 b1 t1 hW HS
  have hBS := HBS.out
  rw [hBS] at T1 V1 V2 V3 ⊢
  clear hBS
  obtain ⟨c0, c1, c2, c3, c4, c5, c6, c7, c8, c9, c10⟩ := T1.out.cb
  have HCL : Aside0 (Calls Tryd.prog _ #[.slice Ab nl cb, .int .u32 268435456, .int .i64 mm] w1 _) := ⟨by
    have := mimesisref14_Class.calls 1 Ab cb l 268435456 mm 2 w1 (V1.out.C (by have := HL.out; omega)) HCB.out HC.out
    rw [HN.out.1] at this
    exact this⟩
  go_wp2_with fail
  refine HCL.out.mono ?_
  rintro e w2 ⟨rfl, hd⟩
  have V4 := Aside0.mk (V1.out.drawn hd)
  have V5 := Aside0.mk (V2.out.drawn hd)
  have V6 := Aside0.mk (V3.out.drawn hd)
  have B2 := Aside0.mk (below_on B1.out hd.below)
  have T2 := Aside0.mk (T1.out.below hd.below)
  clear hd HCL c0 c1 c2 c3 c4 c5 c6 c7 c8 c9 c10 V1 V2 V3 B1 T1
  have HHS : Aside0 (mimesisref13_Has.f 268435456 = some false) := ⟨by kernel_rfl⟩
  go_wp2_with fail
  refine (mimesisref13_Has.calls 268435456 false _ HHS.out).mono ?_
  rintro e w3 ⟨rfl, hd⟩
  have V7 := Aside0.mk (V4.out.drawn hd)
  have V8 := Aside0.mk (V5.out.drawn hd)
  have V9 := Aside0.mk (V6.out.drawn hd)
  have B3 := Aside0.mk (below_on B2.out hd.below)
  have T3 := Aside0.mk (T2.out.below hd.below)
  clear hd V4 V5 V6 B2 T2
  obtain ⟨c0, c1, c2, c3, c4, c5, c6, c7, c8, c9, c10⟩ := T3.out.cb
  have HXB : Aside0 (∀ k, XB X B k → k < w3.heap.size) := ⟨fun k hk => by have := B3.out.size; have := blk_lt T3.out.r; have := HBS.out; rcases hk with h | h | h; have := HQ.out.1 k h; omega; omega; omega⟩
  have HRD : Aside0 (Calls Tryd.prog _ #[.agg #[.slice A len cap, .int .i64 (came : Int), .slice Ar nq cr, .bool over, .slice Ao no co], .int .i64 0, .int .u32 x] w3 fun e w' => ∃ v', e = .returned v' ∧ VC w' (XB X B) A len cap v' came q over (out ++ [x % 256]) ∧ Below w3.heap.size w3 w') := ⟨by
    obtain ⟨e1, e2, e3⟩ := HN.out
    exact rwrite0_calls w3 (XB X B) HXB.out A len cap came q over out (.agg #[.slice A len cap, .int .i64 (came : Int), .slice Ar nq cr, .bool over, .slice Ao no co]) x HQ.out.2.1 HQ.out.2.2.1 HQ.out.2.2.2 ⟨Ar, cr, Ao, co, by rw [e2, e3], V8.out, V9.out⟩⟩
  go_wp2_with fail
  refine HRD.out.mono ?_
  rintro e w4 ⟨v', rfl, ⟨Ar2, cr2, Ao2, co2, rfl, hv2, hv3⟩, hb4⟩
  have V10 := Aside0.mk (V7.out.below hb4)
  have V11 := Aside0.mk hv2
  have V12 := Aside0.mk hv3
  have B4 := Aside0.mk (below_on B3.out hb4)
  have T4 := Aside0.mk (T3.out.below hb4)
  obtain ⟨no2, hno2⟩ : ∃ n, (out ++ [x % 256]).length = n := ⟨_, rfl⟩
  have HN2 := Aside0.mk hno2
  rw [hno2, HN.out.2.1]
  have HTH2 := Aside0.mk (there_mid T4.out.b 1 5 (by simp))
  have FST2 : Aside0 ((w4.setCells B 1 (#[.slice A len cap, .int .i64 (came : Int), .slice Ar2 nq cr2, .bool over, .slice Ao2 no2 co2] : Array Value).toList).heap[B]? = some (.cells #[.slice Ab nl cb, .slice A len cap, .int .i64 (came : Int), .slice Ar2 nq cr2, .bool over, .slice Ao2 no2 co2, .int .u64 o, .int .u64 m, .bool s, .bool off, .int .u32 code] 65 (0, 0)) ∧ Only B w4 (w4.setCells B 1 (#[.slice A len cap, .int .i64 (came : Int), .slice Ar2 nq cr2, .bool over, .slice Ao2 no2 co2] : Array Value).toList)) := ⟨(blk_setCells _ 1 _ _ T4.out.b).trans (by kernel_rfl), only_setCells _ _ _⟩
  clear hv2 hv3 hb4 hno2 V7 V8 V9 B3 T3 HRD c0 c1 c2 c3 c4 c5 c6 c7 c8 c9 c10
  go_wp2_with (refine wpList_store_mid rfl 60 (.tmp 49) (.tmp 48) rfl B 1 #[.slice A len cap, .int .i64 (came : Int), .slice Ar2 nq cr2, .bool over, .slice Ao2 no2 co2] rfl rfl HTH2.out (by kernel_rfl) (by simp [Value.oneCell']) ?_; refine Aside0.out (?_ : Aside0 _))
  refine ⟨?_⟩
  obtain ⟨w6, hw6⟩ : ∃ w6, w4.setCells B 1 (#[.slice A len cap, .int .i64 (came : Int), .slice Ar2 nq cr2, .bool over, .slice Ao2 no2 co2] : Array Value).toList = w6 := ⟨_, rfl⟩
  rw [hw6] at FST2 ⊢
  have T6 : Aside0 (TwoB w6 B #[.slice Ab nl cb, .slice A len cap, .int .i64 (came : Int), .slice Ar2 nq cr2, .bool over, .slice Ao2 no2 co2, .int .u64 o, .int .u64 m, .bool s, .bool off, .int .u32 code] zero11) := ⟨⟨FST2.out.1, blk_only T4.out.r FST2.out.2 (by omega)⟩⟩
  clear hw6 HTH2 T4
  have HTH := Aside0.mk (IGn.there (t := 65) (G := B + 1) (n := 11) (w0 := w6) (w := w6) ⟨Only.refl _ _, _, T6.out.r, rfl⟩)
  have FST := Aside0.mk (storeN T6.out.r (#[.slice Ab nl cb, .slice A len cap, .int .i64 (came : Int), .slice Ar2 nq cr2, .bool over, .slice Ao2 no2 co2, .int .u64 o, .int .u64 m, .bool s, .bool off, .int .u32 code] : Array Value).toList rfl)
  obtain ⟨c0, c1, c2, c3, c4, c5, c6, c7, c8, c9, c10⟩ := T6.out.cb
  go_wp2_with (refine wpList_store_mid rfl 65 (.tmp 10) (.tmp 50) rfl (B + 1) 0 #[.slice Ab nl cb, .slice A len cap, .int .i64 (came : Int), .slice Ar2 nq cr2, .bool over, .slice Ao2 no2 co2, .int .u64 o, .int .u64 m, .bool s, .bool off, .int .u32 code] rfl rfl HTH.out (by kernel_rfl) (by simp [Value.oneCell']) ?_; refine Aside0.out (?_ : Aside0 _))
  refine ⟨?_⟩
  obtain ⟨w9, hw9⟩ : ∃ w9, w6.setCells (B + 1) 0 (#[.slice Ab nl cb, .slice A len cap, .int .i64 (came : Int), .slice Ar2 nq cr2, .bool over, .slice Ao2 no2 co2, .int .u64 o, .int .u64 m, .bool s, .bool off, .int .u32 code] : Array Value).toList = w9 := ⟨_, rfl⟩
  rw [hw9] at FST ⊢
  clear hw9 c0 c1 c2 c3 c4 c5 c6 c7 c8 c9 c10
  go_wp2_with fail
  refine bodyPost_ret (results_cell_row rfl _ _ (B + 1) 65 _ (0, 0) _ rfl FST.out.1 Tryd.underlying65 rfl (by kernel_rfl)) rfl ?_
  obtain ⟨e1, e2, e3⟩ := HN.out
  refine ⟨_, rfl, ?_⟩
  rw [← e1, ← e2, ← HN2.out]
  exact vbus_fin HBS.out V10.out V11.out V12.out B4.out ((OnlyP.of_only FST2.out.2 (.inl rfl)).trans (.of_only FST.out.2 (.inr rfl)))
set_option maxRecDepth 100000 in
set_option maxHeartbeats 8000000 in
theorem rstore_con4 (w : World) (X : Nat → Prop) (A : Option Addr) (len cap : Nat) (v : Value) (l : List Int) (came : Nat) (q : List Int) (over : Bool) (out : List Int) (o m : Int) (s off : Bool) (code : Int) (mm x t : Int) (hV : VBus w X A len cap v l came q over out o m s off code) (hl : l.length ≤ 65536) (hq : (∀ k, X k → k < w.heap.size) ∧ True)
    (hc : mimesisref14_Class.f 1 l 268435460 mm = some 2) :
    Calls Tryd.prog 50 #[v, .int .u32 268435460, .int .i64 mm, .int .u32 x, .int .u64 t] w fun e w' => ∃ v', e = .returned v' ∧ VBus w' X A len cap v' l came q false (out) o m s off code ∧ Below w.heap.size w w' := by
  have HQ := Aside0.mk hq
  clear hq
  obtain ⟨Ab, cb, Ar, cr, Ao, co, rfl, h1, h2, h3⟩ := hV
  have HS := Aside0.mk (bus_start w X h1 h2 h3 #[.slice Ab l.length cb, .slice A len cap, .int .i64 (came : Int), .slice Ar q.length cr, .bool over, .slice Ao out.length co, .int .u64 o, .int .u64 m, .bool s, .bool off, .int .u32 code])
  obtain ⟨B, hB⟩ : ∃ B, w.heap.size = B := ⟨_, rfl⟩
  have HBS := Aside0.mk hB
  have HC := Aside0.mk hc
  have HL := Aside0.mk hl
  have hcb := h1.le
  obtain ⟨nl, hnl⟩ : ∃ nl, l.length = nl := ⟨_, rfl⟩
  obtain ⟨nq, hnq⟩ : ∃ nq, q.length = nq := ⟨_, rfl⟩
  obtain ⟨no, hno⟩ : ∃ no, out.length = no := ⟨_, rfl⟩
  rw [hnl, hnq, hno] at HS ⊢
  have HN := Aside0.mk (And.intro hnl (And.intro hnq hno))
  have HCB := Aside0.mk hcb
  clear hB hc hl h1 h2 h3 hcb hnl hnq hno
  go_enter Tryd.func50, Tryd.ntmps50
  go_upto_region 1 with fail
  generalize hW : World.alloc (World.alloc w _) _ = w1
  obtain ⟨⟨v1, v2, v3⟩, b1, t1⟩ := HS.out w1 hW.symm
  have V1 := Aside0.mk v1
  have V2 := Aside0.mk v2
  have V3 := Aside0.mk v3
  have B1 := Aside0.mk b1
  have T1 := Aside0.mk t1
  clear v1 v2 v3 b1 t1 hW HS
  have hBS := HBS.out
  rw [hBS] at T1 V1 V2 V3 ⊢
  clear hBS
  obtain ⟨c0, c1, c2, c3, c4, c5, c6, c7, c8, c9, c10⟩ := T1.out.cb
  have HCL : Aside0 (Calls Tryd.prog _ #[.slice Ab nl cb, .int .u32 268435460, .int .i64 mm] w1 _) := ⟨by
    have := mimesisref14_Class.calls 1 Ab cb l 268435460 mm 2 w1 (V1.out.C (by have := HL.out; omega)) HCB.out HC.out
    rw [HN.out.1] at this
    exact this⟩
  go_wp2_with fail
  refine HCL.out.mono ?_
  rintro e w2 ⟨rfl, hd⟩
  have V4 := Aside0.mk (V1.out.drawn hd)
  have V5 := Aside0.mk (V2.out.drawn hd)
  have V6 := Aside0.mk (V3.out.drawn hd)
  have B2 := Aside0.mk (below_on B1.out hd.below)
  have T2 := Aside0.mk (T1.out.below hd.below)
  clear hd HCL c0 c1 c2 c3 c4 c5 c6 c7 c8 c9 c10 V1 V2 V3 B1 T1
  have HHS : Aside0 (mimesisref13_Has.f 268435460 = some false) := ⟨by kernel_rfl⟩
  go_wp2_with fail
  refine (mimesisref13_Has.calls 268435460 false _ HHS.out).mono ?_
  rintro e w3 ⟨rfl, hd⟩
  have V7 := Aside0.mk (V4.out.drawn hd)
  have V8 := Aside0.mk (V5.out.drawn hd)
  have V9 := Aside0.mk (V6.out.drawn hd)
  have B3 := Aside0.mk (below_on B2.out hd.below)
  have T3 := Aside0.mk (T2.out.below hd.below)
  clear hd V4 V5 V6 B2 T2
  obtain ⟨c0, c1, c2, c3, c4, c5, c6, c7, c8, c9, c10⟩ := T3.out.cb
  have HXB : Aside0 (∀ k, XB X B k → k < w3.heap.size) := ⟨fun k hk => by have := B3.out.size; have := blk_lt T3.out.r; have := HBS.out; rcases hk with h | h | h; have := HQ.out.1 k h; omega; omega; omega⟩
  have HRD : Aside0 (Calls Tryd.prog _ #[.agg #[.slice A len cap, .int .i64 (came : Int), .slice Ar nq cr, .bool over, .slice Ao no co], .int .i64 4, .int .u32 x] w3 fun e w' => ∃ v', e = .returned v' ∧ VC w' (XB X B) A len cap v' came q false (out) ∧ Below w3.heap.size w3 w') := ⟨by
    obtain ⟨e1, e2, e3⟩ := HN.out
    exact rwrite4_calls w3 (XB X B) A len cap came q over out (.agg #[.slice A len cap, .int .i64 (came : Int), .slice Ar nq cr, .bool over, .slice Ao no co]) x ⟨Ar, cr, Ao, co, by rw [e2, e3], V8.out, V9.out⟩⟩
  go_wp2_with fail
  refine HRD.out.mono ?_
  rintro e w4 ⟨v', rfl, ⟨Ar2, cr2, Ao2, co2, rfl, hv2, hv3⟩, hb4⟩
  have V10 := Aside0.mk (V7.out.below hb4)
  have V11 := Aside0.mk hv2
  have V12 := Aside0.mk hv3
  have B4 := Aside0.mk (below_on B3.out hb4)
  have T4 := Aside0.mk (T3.out.below hb4)
  obtain ⟨no2, hno2⟩ : ∃ n, (out).length = n := ⟨_, rfl⟩
  have HN2 := Aside0.mk hno2
  rw [hno2, HN.out.2.1]
  have HTH2 := Aside0.mk (there_mid T4.out.b 1 5 (by simp))
  have FST2 : Aside0 ((w4.setCells B 1 (#[.slice A len cap, .int .i64 (came : Int), .slice Ar2 nq cr2, .bool false, .slice Ao2 no2 co2] : Array Value).toList).heap[B]? = some (.cells #[.slice Ab nl cb, .slice A len cap, .int .i64 (came : Int), .slice Ar2 nq cr2, .bool false, .slice Ao2 no2 co2, .int .u64 o, .int .u64 m, .bool s, .bool off, .int .u32 code] 65 (0, 0)) ∧ Only B w4 (w4.setCells B 1 (#[.slice A len cap, .int .i64 (came : Int), .slice Ar2 nq cr2, .bool false, .slice Ao2 no2 co2] : Array Value).toList)) := ⟨(blk_setCells _ 1 _ _ T4.out.b).trans (by kernel_rfl), only_setCells _ _ _⟩
  clear hv2 hv3 hb4 hno2 V7 V8 V9 B3 T3 HRD c0 c1 c2 c3 c4 c5 c6 c7 c8 c9 c10
  go_wp2_with (refine wpList_store_mid rfl 60 (.tmp 49) (.tmp 48) rfl B 1 #[.slice A len cap, .int .i64 (came : Int), .slice Ar2 nq cr2, .bool false, .slice Ao2 no2 co2] rfl rfl HTH2.out (by kernel_rfl) (by simp [Value.oneCell']) ?_; refine Aside0.out (?_ : Aside0 _))
  refine ⟨?_⟩
  obtain ⟨w6, hw6⟩ : ∃ w6, w4.setCells B 1 (#[.slice A len cap, .int .i64 (came : Int), .slice Ar2 nq cr2, .bool false, .slice Ao2 no2 co2] : Array Value).toList = w6 := ⟨_, rfl⟩
  rw [hw6] at FST2 ⊢
  have T6 : Aside0 (TwoB w6 B #[.slice Ab nl cb, .slice A len cap, .int .i64 (came : Int), .slice Ar2 nq cr2, .bool false, .slice Ao2 no2 co2, .int .u64 o, .int .u64 m, .bool s, .bool off, .int .u32 code] zero11) := ⟨⟨FST2.out.1, blk_only T4.out.r FST2.out.2 (by omega)⟩⟩
  clear hw6 HTH2 T4
  have HTH := Aside0.mk (IGn.there (t := 65) (G := B + 1) (n := 11) (w0 := w6) (w := w6) ⟨Only.refl _ _, _, T6.out.r, rfl⟩)
  have FST := Aside0.mk (storeN T6.out.r (#[.slice Ab nl cb, .slice A len cap, .int .i64 (came : Int), .slice Ar2 nq cr2, .bool false, .slice Ao2 no2 co2, .int .u64 o, .int .u64 m, .bool s, .bool off, .int .u32 code] : Array Value).toList rfl)
  obtain ⟨c0, c1, c2, c3, c4, c5, c6, c7, c8, c9, c10⟩ := T6.out.cb
  go_wp2_with (refine wpList_store_mid rfl 65 (.tmp 10) (.tmp 50) rfl (B + 1) 0 #[.slice Ab nl cb, .slice A len cap, .int .i64 (came : Int), .slice Ar2 nq cr2, .bool false, .slice Ao2 no2 co2, .int .u64 o, .int .u64 m, .bool s, .bool off, .int .u32 code] rfl rfl HTH.out (by kernel_rfl) (by simp [Value.oneCell']) ?_; refine Aside0.out (?_ : Aside0 _))
  refine ⟨?_⟩
  obtain ⟨w9, hw9⟩ : ∃ w9, w6.setCells (B + 1) 0 (#[.slice Ab nl cb, .slice A len cap, .int .i64 (came : Int), .slice Ar2 nq cr2, .bool false, .slice Ao2 no2 co2, .int .u64 o, .int .u64 m, .bool s, .bool off, .int .u32 code] : Array Value).toList = w9 := ⟨_, rfl⟩
  rw [hw9] at FST ⊢
  clear hw9 c0 c1 c2 c3 c4 c5 c6 c7 c8 c9 c10
  go_wp2_with fail
  refine bodyPost_ret (results_cell_row rfl _ _ (B + 1) 65 _ (0, 0) _ rfl FST.out.1 Tryd.underlying65 rfl (by kernel_rfl)) rfl ?_
  obtain ⟨e1, e2, e3⟩ := HN.out
  refine ⟨_, rfl, ?_⟩
  rw [← e1, ← e2, ← HN2.out]
  exact vbus_fin HBS.out V10.out V11.out V12.out B4.out ((OnlyP.of_only FST2.out.2 (.inl rfl)).trans (.of_only FST.out.2 (.inr rfl)))
end Go.Proofs.YtdalboofhckobaaDoor

namespace Go.Proofs.YtdalboofhckobaaDoor
open Go Go.RowKit Go.Deep Go.Proofs.YtdalboofhckobaaDoorW.PrintWords Go.Proofs.YtdalboofhckobaaDoor.QBusPlays
set_option linter.unusedVariables false
set_option linter.unusedSimpArgs false

theorem range_of {w : World} {b t : Nat} {cs : Array Value} {z : Nat × Nat} (H : w.heap[b]? = some (.cells cs t z)) : w.rangeAt b 0 cs.toList := fun j v hv => by
  rw [Nat.zero_add, cell_of_row w b j _ _ _ H]
  simpa using hv
theorem wpList_load_arr {P : Program} {ops : Array Oper} {Q : Exit → Act → World → Prop} {rest : List Oper} {op : Oper} {a : Act} {w : World} (hgd : op.guard = none) (ty : TypeId) (x : Operand) (ho : op.op = .load ty x)
    (b : Nat) (hx : a.eval x = .pointer (some ⟨b, 0, none⟩)) (cs : Array Value) {t : Nat} {z : Nat × Nat} (H : w.heap[b]? = some (.cells cs t z)) (d : TypeDesc)
    (hu : P.underlying ty = some d) (hd : d.isRow = true) (hi : (P.info? ty).map (·.size) = some cs.size)
    (h : wpList P ops Q rest (a.put op.dst (.agg cs)) w) : wpList P ops Q (op :: rest) a w :=
  wpList_load_mid hgd ty x ho b 0 hx cs.toList d (range_of H) hu hd (by simpa using hi) (by simpa using h)
theorem wpList_store_arr {P : Program} {ops : Array Oper} {Q : Exit → Act → World → Prop} {rest : List Oper} {op : Oper} {a : Act} {w : World} (hgd : op.guard = none) (ty : TypeId) (x y : Operand) (ho : op.op = .store ty x y)
    (b : Nat) (hx : a.eval x = .pointer (some ⟨b, 0, none⟩)) (cs : Array Value) (hy : a.eval y = .agg cs) (rs : Array Value) (t : Nat) (H : w.heap[b]? = some (.cells rs t (0, 0))) (hrs : rs.size = cs.size)
    (hi : (P.info? ty).map (·.size) = some cs.size) (h1 : cs.all (·.oneCell') = true)
    (h : ∀ w', w'.heap[b]? = some (.cells cs t (0, 0)) → Only b w w' → wpList P ops Q rest (a.put op.dst undef) w') : wpList P ops Q (op :: rest) a w := by
  have hs := storeN H cs.toList (by simpa using hrs)
  refine wpList_store_mid hgd ty x y ho b 0 cs hx hy (there_mid H 0 _ (by omega)) hi h1 (h _ ?_ hs.2)
  simpa using hs.1
theorem OnlyP.new {Y : Nat → Prop} {w w' w'' : World} (h : OnlyP Y w w') {g : Nat} (k : Only g w' w'') (hg : w.heap.size ≤ g) : OnlyP Y w w'' :=
  ⟨k.os.trans h.os, k.tape.trans h.tape, k.output.trans h.output, Nat.le_trans h.size k.size, fun i hi hn => (k.block i (Nat.lt_of_lt_of_le hi h.size) (by omega)).trans (h.block i hi hn)⟩
/-- The three boxes of a step. -/
structure SBox (w : World) (n : Nat) (cs : Array Value) (kd a mm x t : Int) : Prop where
  b : w.heap[n]? = some (.cells cs 65 (0, 0))
  s : w.heap[n + 1]? = some (.cells #[.int .i64 kd, .int .u32 a, .int .i64 mm, .int .u32 x, .int .u64 t] 69 (0, 0))
  r : w.heap[n + 2]? = some (.cells zero11 65 (0, 0))
def N3 (n k : Nat) : Prop := n ≤ k ∧ k < n + 3
/-- What stays, whatever is written to the boxes. -/
def Stab (n : Nat) (Q : World → Prop) : Prop := ∀ w' w'', Q w' → OnlyP (N3 n) w' w'' → Q w''
section
variable {w w' : World} {n : Nat} {cs : Array Value} {kd a mm x t : Int}
theorem SBox.below (h : SBox w n cs kd a mm x t) (d : Below w.heap.size w w') : SBox w' n cs kd a mm x t := ⟨blk_below h.b d, blk_below h.s d, blk_below h.r d⟩
theorem SBox.move (h : SBox w n cs kd a mm x t) {Y : Nat → Prop} (d : OnlyP Y w w') (hY : ∀ k, Y k → ¬ N3 n k) : SBox w' n cs kd a mm x t :=
  ⟨(d.block n (blk_lt h.b) (fun e => hY _ e ⟨by omega, by omega⟩)).trans h.b, (d.block (n + 1) (blk_lt h.s) (fun e => hY _ e ⟨by omega, by omega⟩)).trans h.s, (d.block (n + 2) (blk_lt h.r) (fun e => hY _ e ⟨by omega, by omega⟩)).trans h.r⟩
theorem SBox.sc (h : SBox w n cs kd a mm x t) : w.cell? ⟨n + 1, 0, none⟩ = some (.int .i64 kd) ∧ w.cell? ⟨n + 1, 1, none⟩ = some (.int .u32 a) ∧ w.cell? ⟨n + 1, 2, none⟩ = some (.int .i64 mm) ∧ w.cell? ⟨n + 1, 3, none⟩ = some (.int .u32 x) ∧ w.cell? ⟨n + 1, 4, none⟩ = some (.int .u64 t) :=
  ⟨(blk_cell h.s 0).trans rfl, (blk_cell h.s 1).trans rfl, (blk_cell h.s 2).trans rfl, (blk_cell h.s 3).trans rfl, (blk_cell h.s 4).trans rfl⟩
theorem sbox_new (w : World) (cs : Array Value) (kd a mm x t : Int) : ∀ w1, w1 = (((w.alloc (.cells cs 65)).alloc (.cells #[.int .i64 kd, .int .u32 a, .int .i64 mm, .int .u32 x, .int .u64 t] 69)).alloc (.cells zero11 65)) → SBox w1 w.heap.size cs kd a mm x t ∧ Below w.heap.size w w1 ∧ w.heap.size + 3 ≤ w1.heap.size := by
  rintro w1 rfl
  have h1 := blk_new w (.cells cs 65)
  have h2 := blk_new (w.alloc (.cells cs 65)) (.cells #[.int .i64 kd, .int .u32 a, .int .i64 mm, .int .u32 x, .int .u64 t] 69)
  have h3 := blk_new ((w.alloc (.cells cs 65)).alloc (.cells #[.int .i64 kd, .int .u32 a, .int .i64 mm, .int .u32 x, .int .u64 t] 69)) (.cells zero11 65)
  rw [World.size_alloc] at h2 h3
  rw [World.size_alloc] at h3
  have b2 := below_alloc (Below.refl _ (w.alloc (.cells cs 65))) (.cells #[.int .i64 kd, .int .u32 a, .int .i64 mm, .int .u32 x, .int .u64 t] 69)
  have b3 := below_alloc (Below.refl _ ((w.alloc (.cells cs 65)).alloc (.cells #[.int .i64 kd, .int .u32 a, .int .i64 mm, .int .u32 x, .int .u64 t] 69))) (.cells zero11 65)
  exact ⟨⟨blk_below (blk_below h1 b2) b3, blk_below h2 b3, h3⟩, below_alloc (below_alloc (below_alloc (Below.refl _ _) _) _) _, by simp [World.size_alloc]⟩
end
theorem put5_ok {cs : Array Value} {d1 d2 d3 d4 d5 : Value} (hs : cs.size = 11) (ho : cs.all (·.oneCell') = true) (hd : d1.oneCell' = true ∧ d2.oneCell' = true ∧ d3.oneCell' = true ∧ d4.oneCell' = true ∧ d5.oneCell' = true) : (putAt cs 1 [d1, d2, d3, d4, d5]).size = 11 ∧ (putAt cs 1 [d1, d2, d3, d4, d5]).all (·.oneCell') = true := by
  have hl := putAt_list [d1, d2, d3, d4, d5] 1 cs (by simp [hs])
  refine ⟨by simp [putAt, hs], ?_⟩
  rw [Array.all_eq_true_iff_forall_mem] at ho ⊢
  intro v hv
  have hv' : v ∈ (putAt cs 1 [d1, d2, d3, d4, d5]).toList := by simpa using hv
  rw [hl] at hv'
  rcases List.mem_append.1 hv' with h | h
  · rcases List.mem_append.1 h with h | h
    · exact ho v (by simpa using List.mem_of_mem_take h)
    · simp only [List.mem_cons, List.not_mem_nil, or_false] at h
      rcases h with rfl | rfl | rfl | rfl | rfl
      · exact hd.1
      · exact hd.2.1
      · exact hd.2.2.1
      · exact hd.2.2.2.1
      · exact hd.2.2.2.2
  · exact ho v (by simpa using List.mem_of_mem_drop h)
/-- What an array of cells is, that is a bus. -/
structure Cs11 (cs : Array Value) (Ab : Option Addr) (nl cb : Nat) : Prop where
  size : cs.size = 11
  one : cs.all (·.oneCell') = true
  c0 : cs[0]? = some (.slice Ab nl cb)
set_option maxRecDepth 100000 in
set_option maxHeartbeats 8000000 in
theorem step_load_no (w : World) (B : Nat) (cs : Array Value) (Ab : Option Addr) (nl cb : Nat) (a mm x t e0 : Int) (HC : Cs11 cs Ab nl cb) (hz : (e0 != 0) = true) (Y : Nat → Prop) (HY : ∀ k, Y k → k < w.heap.size) (Q : World → Prop) (HS : Stab w.heap.size Q)
    (HA : ∀ w', Below w.heap.size w w' → Calls Tryd.prog 48 #[.slice Ab nl cb, .int .u32 a, .int .i64 mm] w' fun e w'' => e = .returned (.int .i64 e0) ∧ Drawn0 w' w'')
    (HP : ∀ w', Below w.heap.size w w' → w.heap.size + 3 ≤ w'.heap.size → Calls Tryd.prog 17 #[.pointer (some ⟨B, 0, none⟩), .int .u32 a, .int .i64 mm, .int .u64 t] w' fun e w'' => e = .returned (.tuple #[.int .u32 0, .int .i64 e0]) ∧ Q w'' ∧ OnlyP Y w' w'') :
    Calls Tryd.prog 28 #[.pointer (some ⟨B, 0, none⟩), .agg cs, .agg #[.int .i64 1, .int .u32 a, .int .i64 mm, .int .u32 x, .int .u64 t]] w fun e w' => ∃ cs', e = .returned (.tuple #[.agg cs', .bool true]) ∧ (cs' = cs ∧ Q w') ∧ OnlyP Y w w' := by
  have HPP := Aside0.mk HP
  have HYY := Aside0.mk HY
  have HSTAB := Aside0.mk HS
  have HB := Aside0.mk (sbox_new w cs 1 a mm x t)
  have HCC := Aside0.mk HC
  have HAA := Aside0.mk HA
  obtain ⟨n, hn⟩ : ∃ n, w.heap.size = n := ⟨_, rfl⟩
  have HNS := Aside0.mk hn
  clear HC HA hn HP HY HS
  go_enter Tryd.func28, Tryd.ntmps28
  go_upto_region 1 with fail
  generalize hW : World.alloc (World.alloc (World.alloc w _) _) _ = w1
  obtain ⟨s1, b1, z1⟩ := HB.out w1 hW.symm
  have S1 := Aside0.mk s1
  have B1 := Aside0.mk b1
  have Z1 := Aside0.mk z1
  clear s1 b1 z1 hW HB
  have hNS := HNS.out
  rw [hNS] at S1 HSTAB ⊢
  clear hNS
  have c0 : w1.cell? ⟨n, 0, none⟩ = some (.slice Ab nl cb) := (blk_cell S1.out.b 0).trans HCC.out.c0
  obtain ⟨q0, q1, q2, q3, q4⟩ := S1.out.sc
  go_wp2_with fail
  refine (HAA.out _ B1.out).mono ?_
  rintro e w2 ⟨rfl, hd⟩
  have S2 := Aside0.mk (S1.out.below hd.below)
  have B2 := Aside0.mk (below_on B1.out hd.below)
  have Z2 := Aside0.mk (Nat.le_trans Z1.out hd.below.size)
  clear hd c0 q0 q1 q2 q3 q4 S1 B1 Z1 HAA
  obtain ⟨q0, q1, q2, q3, q4⟩ := S2.out.sc
  go_wp2_with fail
  refine (HPP.out _ B2.out Z2.out).mono ?_
  rintro e w3 ⟨rfl, hq, ho⟩
  have S3 := Aside0.mk (S2.out.move ho (fun k hk => by have := HYY.out k hk; unfold N3; have := HNS.out; omega))
  have Q3 := Aside0.mk hq
  have O3 := Aside0.mk ((OnlyP.of_below B2.out).trans ho)
  have Z3 := Aside0.mk (Nat.le_trans Z2.out ho.size)
  clear hq ho q0 q1 q2 q3 q4 S2 B2 Z2 HPP
  obtain ⟨q0, q1, q2, q3, q4⟩ := S3.out.sc
  have HCX := HCC
  have HL := Aside0.mk S3.out.b
  go_wp2_with (first | (refine wpList_load_arr rfl 65 (.tmp 4) rfl n rfl cs HL.out _ Tryd.underlying65 rfl (by rw [HCC.out.size]; kernel_rfl) ?_) | (refine wpList_store_arr rfl 65 (.tmp 6) (.tmp 39) rfl (n + 2) rfl cs rfl zero11 65 S3.out.r (HCX.out.size.symm) (by rw [HCX.out.size]; kernel_rfl) HCX.out.one ?_; intro w9 hf ho; have HF := Aside0.mk hf; have HO := Aside0.mk ho; clear hf ho))
  go_wp2_with fail
  refine bodyPost_ret (results_cell_row_tmp rfl _ _ (n + 2) 65 _ (0, 0) _ rfl HF.out Tryd.underlying65 rfl (by rw [HCX.out.size]; kernel_rfl)) rfl ?_
  exact ⟨cs, rfl, ⟨rfl, HSTAB.out _ _ Q3.out (.of_only HO.out ⟨by omega, by omega⟩)⟩, O3.out.new HO.out (by have := HNS.out; omega)⟩
set_option maxRecDepth 100000 in
set_option maxHeartbeats 8000000 in
theorem step_store_no (w : World) (B : Nat) (cs : Array Value) (Ab : Option Addr) (nl cb : Nat) (a mm x t e0 : Int) (HC : Cs11 cs Ab nl cb) (hz : (e0 != 0) = true) (Y : Nat → Prop) (HY : ∀ k, Y k → k < w.heap.size) (Q : World → Prop) (HS : Stab w.heap.size Q)
    (HA : ∀ w', Below w.heap.size w w' → Calls Tryd.prog 48 #[.slice Ab nl cb, .int .u32 a, .int .i64 mm] w' fun e w'' => e = .returned (.int .i64 e0) ∧ Drawn0 w' w'')
    (HP : ∀ w', Below w.heap.size w w' → w.heap.size + 3 ≤ w'.heap.size → Calls Tryd.prog 14 #[.pointer (some ⟨B, 0, none⟩), .int .u32 a, .int .i64 mm, .int .u32 x, .int .u64 t] w' fun e w'' => e = .returned (.tuple #[.bool false, .int .i64 e0]) ∧ Q w'' ∧ OnlyP Y w' w'') :
    Calls Tryd.prog 28 #[.pointer (some ⟨B, 0, none⟩), .agg cs, .agg #[.int .i64 2, .int .u32 a, .int .i64 mm, .int .u32 x, .int .u64 t]] w fun e w' => ∃ cs', e = .returned (.tuple #[.agg cs', .bool true]) ∧ (cs' = cs ∧ Q w') ∧ OnlyP Y w w' := by
  have HPP := Aside0.mk HP
  have HYY := Aside0.mk HY
  have HSTAB := Aside0.mk HS
  have HB := Aside0.mk (sbox_new w cs 2 a mm x t)
  have HCC := Aside0.mk HC
  have HAA := Aside0.mk HA
  obtain ⟨n, hn⟩ : ∃ n, w.heap.size = n := ⟨_, rfl⟩
  have HNS := Aside0.mk hn
  clear HC HA hn HP HY HS
  go_enter Tryd.func28, Tryd.ntmps28
  go_upto_region 1 with fail
  generalize hW : World.alloc (World.alloc (World.alloc w _) _) _ = w1
  obtain ⟨s1, b1, z1⟩ := HB.out w1 hW.symm
  have S1 := Aside0.mk s1
  have B1 := Aside0.mk b1
  have Z1 := Aside0.mk z1
  clear s1 b1 z1 hW HB
  have hNS := HNS.out
  rw [hNS] at S1 HSTAB ⊢
  clear hNS
  have c0 : w1.cell? ⟨n, 0, none⟩ = some (.slice Ab nl cb) := (blk_cell S1.out.b 0).trans HCC.out.c0
  obtain ⟨q0, q1, q2, q3, q4⟩ := S1.out.sc
  go_wp2_with fail
  refine (HAA.out _ B1.out).mono ?_
  rintro e w2 ⟨rfl, hd⟩
  have S2 := Aside0.mk (S1.out.below hd.below)
  have B2 := Aside0.mk (below_on B1.out hd.below)
  have Z2 := Aside0.mk (Nat.le_trans Z1.out hd.below.size)
  clear hd c0 q0 q1 q2 q3 q4 S1 B1 Z1 HAA
  obtain ⟨q0, q1, q2, q3, q4⟩ := S2.out.sc
  go_wp2_with fail
  refine (HPP.out _ B2.out Z2.out).mono ?_
  rintro e w3 ⟨rfl, hq, ho⟩
  have S3 := Aside0.mk (S2.out.move ho (fun k hk => by have := HYY.out k hk; unfold N3; have := HNS.out; omega))
  have Q3 := Aside0.mk hq
  have O3 := Aside0.mk ((OnlyP.of_below B2.out).trans ho)
  have Z3 := Aside0.mk (Nat.le_trans Z2.out ho.size)
  clear hq ho q0 q1 q2 q3 q4 S2 B2 Z2 HPP
  obtain ⟨q0, q1, q2, q3, q4⟩ := S3.out.sc
  have HCX := HCC
  have HL := Aside0.mk S3.out.b
  go_wp2_with (first | (refine wpList_load_arr rfl 65 (.tmp 4) rfl n rfl cs HL.out _ Tryd.underlying65 rfl (by rw [HCC.out.size]; kernel_rfl) ?_) | (refine wpList_store_arr rfl 65 (.tmp 6) (.tmp 83) rfl (n + 2) rfl cs rfl zero11 65 S3.out.r (HCX.out.size.symm) (by rw [HCX.out.size]; kernel_rfl) HCX.out.one ?_; intro w9 hf ho; have HF := Aside0.mk hf; have HO := Aside0.mk ho; clear hf ho))
  go_wp2_with fail
  refine bodyPost_ret (results_cell_row_tmp rfl _ _ (n + 2) 65 _ (0, 0) _ rfl HF.out Tryd.underlying65 rfl (by rw [HCX.out.size]; kernel_rfl)) rfl ?_
  exact ⟨cs, rfl, ⟨rfl, HSTAB.out _ _ Q3.out (.of_only HO.out ⟨by omega, by omega⟩)⟩, O3.out.new HO.out (by have := HNS.out; omega)⟩
set_option maxRecDepth 100000 in
set_option maxHeartbeats 8000000 in
theorem step_load_yes (w : World) (B : Nat) (cs : Array Value) (Ab : Option Addr) (nl cb : Nat) (y a mm x t e0 : Int) (HC : Cs11 cs Ab nl cb) (Y : Nat → Prop) (HY : ∀ k, Y k → k < w.heap.size) (Q : World → Prop) (HS : Stab w.heap.size Q) (QD : Array Value → World → Prop) (HSD : ∀ c, Stab w.heap.size (QD c))
    (HA : ∀ w', Below w.heap.size w w' → Calls Tryd.prog 48 #[.slice Ab nl cb, .int .u32 a, .int .i64 mm] w' fun e w'' => e = .returned (.int .i64 0) ∧ Drawn0 w' w'')
    (HP : ∀ w', Below w.heap.size w w' → w.heap.size + 3 ≤ w'.heap.size → Calls Tryd.prog 17 #[.pointer (some ⟨B, 0, none⟩), .int .u32 a, .int .i64 mm, .int .u64 t] w' fun e w'' => e = .returned (.tuple #[.int .u32 y, .int .i64 0]) ∧ Q w'' ∧ OnlyP Y w' w'')
    (HD : ∀ w', Q w' → w.heap.size + 3 ≤ w'.heap.size → Calls Tryd.prog 49 #[.agg cs, .int .u32 a, .int .i64 mm, .int .u64 t] w' fun e w'' => ∃ cs', e = .returned (.tuple #[.agg cs', .int .u32 y]) ∧ (cs'.size = 11 ∧ cs'.all (·.oneCell') = true) ∧ QD cs' w'' ∧ Below w'.heap.size w' w'') :
    Calls Tryd.prog 28 #[.pointer (some ⟨B, 0, none⟩), .agg cs, .agg #[.int .i64 1, .int .u32 a, .int .i64 mm, .int .u32 x, .int .u64 t]] w fun e w' => ∃ cs', e = .returned (.tuple #[.agg cs', .bool true]) ∧ QD cs' w' ∧ OnlyP Y w w' := by
  have HPP := Aside0.mk HP
  have HYY := Aside0.mk HY
  have HSTAB := Aside0.mk HSD
  have HDD := Aside0.mk HD
  have HB := Aside0.mk (sbox_new w cs 1 a mm x t)
  have HCC := Aside0.mk HC
  have HAA := Aside0.mk HA
  obtain ⟨n, hn⟩ : ∃ n, w.heap.size = n := ⟨_, rfl⟩
  have HNS := Aside0.mk hn
  clear HC HA hn HP HY HSD HD
  go_enter Tryd.func28, Tryd.ntmps28
  go_upto_region 1 with fail
  generalize hW : World.alloc (World.alloc (World.alloc w _) _) _ = w1
  obtain ⟨s1, b1, z1⟩ := HB.out w1 hW.symm
  have S1 := Aside0.mk s1
  have B1 := Aside0.mk b1
  have Z1 := Aside0.mk z1
  clear s1 b1 z1 hW HB
  have hNS := HNS.out
  rw [hNS] at S1 HSTAB ⊢
  clear hNS
  have c0 : w1.cell? ⟨n, 0, none⟩ = some (.slice Ab nl cb) := (blk_cell S1.out.b 0).trans HCC.out.c0
  obtain ⟨q0, q1, q2, q3, q4⟩ := S1.out.sc
  go_wp2_with fail
  refine (HAA.out _ B1.out).mono ?_
  rintro e w2 ⟨rfl, hd⟩
  have S2 := Aside0.mk (S1.out.below hd.below)
  have B2 := Aside0.mk (below_on B1.out hd.below)
  have Z2 := Aside0.mk (Nat.le_trans Z1.out hd.below.size)
  clear hd c0 q0 q1 q2 q3 q4 S1 B1 Z1 HAA
  obtain ⟨q0, q1, q2, q3, q4⟩ := S2.out.sc
  go_wp2_with fail
  refine (HPP.out _ B2.out Z2.out).mono ?_
  rintro e w3 ⟨rfl, hq, ho⟩
  have S3 := Aside0.mk (S2.out.move ho (fun k hk => by have := HYY.out k hk; unfold N3; have := HNS.out; omega))
  have Q3 := Aside0.mk hq
  have O3 := Aside0.mk ((OnlyP.of_below B2.out).trans ho)
  have Z3 := Aside0.mk (Nat.le_trans Z2.out ho.size)
  clear hq ho q0 q1 q2 q3 q4 S2 B2 Z2 HPP
  obtain ⟨q0, q1, q2, q3, q4⟩ := S3.out.sc
  have HL := Aside0.mk S3.out.b
  go_wp2_with ((refine wpList_load_arr rfl 65 (.tmp 4) rfl n rfl cs HL.out _ Tryd.underlying65 rfl (by rw [HCC.out.size]; kernel_rfl) ?_))
  refine (HDD.out _ Q3.out Z3.out).mono ?_
  rintro e w4 ⟨cs', rfl, hc', hq', hd⟩
  have HC2 := Aside0.mk hc'
  have S4 := Aside0.mk (S3.out.below hd)
  have Q4 := Aside0.mk hq'
  have O4 := Aside0.mk (O3.out.trans (.of_below hd))
  clear hc' hq' hd HDD q0 q1 q2 q3 q4 S3 Q3 Z3 HL
  go_wp2_with (first
    | (refine wpList_store_arr rfl 65 (.tmp 11) (.tmp 56) rfl w4.heap.size rfl cs' rfl zero11 65 (blk_new w4 _) HC2.out.1.symm (by rw [HC2.out.1]; kernel_rfl) HC2.out.2 ?_; intro w5 hf ho; have F5 := Aside0.mk hf; have hb5 := fresh_below ho; have S5 := Aside0.mk (S4.out.below hb5); have Q5 := Aside0.mk (HSTAB.out _ _ _ Q4.out (.of_below hb5)); have O5 := Aside0.mk (O4.out.trans (.of_below hb5)); clear hf ho hb5)
    | (refine wpList_load_arr rfl 65 (.tmp 11) rfl w4.heap.size rfl cs' F5.out _ Tryd.underlying65 rfl (by rw [HC2.out.1]; kernel_rfl) ?_)
    | (refine wpList_store_arr rfl 65 (.tmp 6) (.tmp 58) rfl (n + 2) rfl cs' rfl zero11 65 S5.out.r HC2.out.1.symm (by rw [HC2.out.1]; kernel_rfl) HC2.out.2 ?_; intro w9 hf ho; have HF := Aside0.mk hf; have HO := Aside0.mk ho; clear hf ho))
  go_wp2_with fail
  refine bodyPost_ret (results_cell_row_tmp rfl _ _ (n + 2) 65 _ (0, 0) _ rfl HF.out Tryd.underlying65 rfl (by rw [HC2.out.1]; kernel_rfl)) rfl ?_
  exact ⟨cs', rfl, HSTAB.out _ _ _ Q5.out (.of_only HO.out ⟨by omega, by omega⟩), O5.out.new HO.out (by have := HNS.out; omega)⟩
set_option maxRecDepth 100000 in
set_option maxHeartbeats 8000000 in
theorem step_store_yes (w : World) (B : Nat) (cs : Array Value) (Ab : Option Addr) (nl cb : Nat) (a mm x t e0 : Int) (HC : Cs11 cs Ab nl cb) (Y : Nat → Prop) (HY : ∀ k, Y k → k < w.heap.size) (Q : World → Prop) (HS : Stab w.heap.size Q) (QD : Array Value → World → Prop) (HSD : ∀ c, Stab w.heap.size (QD c))
    (HA : ∀ w', Below w.heap.size w w' → Calls Tryd.prog 48 #[.slice Ab nl cb, .int .u32 a, .int .i64 mm] w' fun e w'' => e = .returned (.int .i64 0) ∧ Drawn0 w' w'')
    (HP : ∀ w', Below w.heap.size w w' → w.heap.size + 3 ≤ w'.heap.size → Calls Tryd.prog 14 #[.pointer (some ⟨B, 0, none⟩), .int .u32 a, .int .i64 mm, .int .u32 x, .int .u64 t] w' fun e w'' => e = .returned (.tuple #[.bool false, .int .i64 0]) ∧ Q w'' ∧ OnlyP Y w' w'')
    (HD : ∀ w', Q w' → w.heap.size + 3 ≤ w'.heap.size → Calls Tryd.prog 50 #[.agg cs, .int .u32 a, .int .i64 mm, .int .u32 x, .int .u64 t] w' fun e w'' => ∃ cs', e = .returned (.agg cs') ∧ (cs'.size = 11 ∧ cs'.all (·.oneCell') = true) ∧ QD cs' w'' ∧ Below w'.heap.size w' w'') :
    Calls Tryd.prog 28 #[.pointer (some ⟨B, 0, none⟩), .agg cs, .agg #[.int .i64 2, .int .u32 a, .int .i64 mm, .int .u32 x, .int .u64 t]] w fun e w' => ∃ cs', e = .returned (.tuple #[.agg cs', .bool true]) ∧ QD cs' w' ∧ OnlyP Y w w' := by
  have HPP := Aside0.mk HP
  have HYY := Aside0.mk HY
  have HSTAB := Aside0.mk HSD
  have HDD := Aside0.mk HD
  have HB := Aside0.mk (sbox_new w cs 2 a mm x t)
  have HCC := Aside0.mk HC
  have HAA := Aside0.mk HA
  obtain ⟨n, hn⟩ : ∃ n, w.heap.size = n := ⟨_, rfl⟩
  have HNS := Aside0.mk hn
  clear HC HA hn HP HY HSD HD
  go_enter Tryd.func28, Tryd.ntmps28
  go_upto_region 1 with fail
  generalize hW : World.alloc (World.alloc (World.alloc w _) _) _ = w1
  obtain ⟨s1, b1, z1⟩ := HB.out w1 hW.symm
  have S1 := Aside0.mk s1
  have B1 := Aside0.mk b1
  have Z1 := Aside0.mk z1
  clear s1 b1 z1 hW HB
  have hNS := HNS.out
  rw [hNS] at S1 HSTAB ⊢
  clear hNS
  have c0 : w1.cell? ⟨n, 0, none⟩ = some (.slice Ab nl cb) := (blk_cell S1.out.b 0).trans HCC.out.c0
  obtain ⟨q0, q1, q2, q3, q4⟩ := S1.out.sc
  go_wp2_with fail
  refine (HAA.out _ B1.out).mono ?_
  rintro e w2 ⟨rfl, hd⟩
  have S2 := Aside0.mk (S1.out.below hd.below)
  have B2 := Aside0.mk (below_on B1.out hd.below)
  have Z2 := Aside0.mk (Nat.le_trans Z1.out hd.below.size)
  clear hd c0 q0 q1 q2 q3 q4 S1 B1 Z1 HAA
  obtain ⟨q0, q1, q2, q3, q4⟩ := S2.out.sc
  go_wp2_with fail
  refine (HPP.out _ B2.out Z2.out).mono ?_
  rintro e w3 ⟨rfl, hq, ho⟩
  have S3 := Aside0.mk (S2.out.move ho (fun k hk => by have := HYY.out k hk; unfold N3; have := HNS.out; omega))
  have Q3 := Aside0.mk hq
  have O3 := Aside0.mk ((OnlyP.of_below B2.out).trans ho)
  have Z3 := Aside0.mk (Nat.le_trans Z2.out ho.size)
  clear hq ho q0 q1 q2 q3 q4 S2 B2 Z2 HPP
  obtain ⟨q0, q1, q2, q3, q4⟩ := S3.out.sc
  have HL := Aside0.mk S3.out.b
  go_wp2_with ((refine wpList_load_arr rfl 65 (.tmp 4) rfl n rfl cs HL.out _ Tryd.underlying65 rfl (by rw [HCC.out.size]; kernel_rfl) ?_))
  refine (HDD.out _ Q3.out Z3.out).mono ?_
  rintro e w4 ⟨cs', rfl, hc', hq', hd⟩
  have HC2 := Aside0.mk hc'
  have S4 := Aside0.mk (S3.out.below hd)
  have Q4 := Aside0.mk hq'
  have O4 := Aside0.mk (O3.out.trans (.of_below hd))
  clear hc' hq' hd HDD q0 q1 q2 q3 q4 S3 Q3 Z3 HL
  go_wp2_with (refine wpList_store_arr rfl 65 (.tmp 6) (.tmp 100) rfl (n + 2) rfl cs' rfl zero11 65 S4.out.r HC2.out.1.symm (by rw [HC2.out.1]; kernel_rfl) HC2.out.2 ?_; intro w9 hf ho; have HF := Aside0.mk hf; have HO := Aside0.mk ho; clear hf ho)
  go_wp2_with fail
  refine bodyPost_ret (results_cell_row_tmp rfl _ _ (n + 2) 65 _ (0, 0) _ rfl HF.out Tryd.underlying65 rfl (by rw [HC2.out.1]; kernel_rfl)) rfl ?_
  exact ⟨cs', rfl, HSTAB.out _ _ _ Q4.out (.of_only HO.out ⟨by omega, by omega⟩), O4.out.new HO.out (by have := HNS.out; omega)⟩
set_option maxRecDepth 100000 in
set_option maxHeartbeats 8000000 in
theorem step_other (w : World) (B : Nat) (cs : Array Value) (Ab : Option Addr) (nl cb : Nat) (kd a mm x t e0 : Int) (HC : Cs11 cs Ab nl cb) (h1 : (kd == 1) = false) (h2 : (kd == 2) = false) (h3 : (kd == 3) = false) (Q : World → Prop) (HQ : Q w) (HB0 : ∀ w', Q w → Below w.heap.size w w' → Q w') (HS : Stab w.heap.size Q)
    (HA : ∀ w', Below w.heap.size w w' → Calls Tryd.prog 48 #[.slice Ab nl cb, .int .u32 a, .int .i64 mm] w' fun e w'' => e = .returned (.int .i64 e0) ∧ Drawn0 w' w'')
    :
    Calls Tryd.prog 28 #[.pointer (some ⟨B, 0, none⟩), .agg cs, .agg #[.int .i64 kd, .int .u32 a, .int .i64 mm, .int .u32 x, .int .u64 t]] w fun e w' => ∃ cs', e = .returned (.tuple #[.agg cs', .bool true]) ∧ (cs' = cs ∧ Q w') ∧ OnlyP (fun _ => False) w w' := by
  have HQQ := Aside0.mk HQ
  have HBB := Aside0.mk HB0
  have HSTAB := Aside0.mk HS
  have HB := Aside0.mk (sbox_new w cs kd a mm x t)
  have HCC := Aside0.mk HC
  have HAA := Aside0.mk HA
  obtain ⟨n, hn⟩ : ∃ n, w.heap.size = n := ⟨_, rfl⟩
  have HNS := Aside0.mk hn
  clear HC HA hn HQ HB0 HS
  go_enter Tryd.func28, Tryd.ntmps28
  go_upto_region 1 with fail
  generalize hW : World.alloc (World.alloc (World.alloc w _) _) _ = w1
  obtain ⟨s1, b1, z1⟩ := HB.out w1 hW.symm
  have S1 := Aside0.mk s1
  have B1 := Aside0.mk b1
  have Z1 := Aside0.mk z1
  clear s1 b1 z1 hW HB
  have hNS := HNS.out
  rw [hNS] at S1 HSTAB ⊢
  clear hNS
  have c0 : w1.cell? ⟨n, 0, none⟩ = some (.slice Ab nl cb) := (blk_cell S1.out.b 0).trans HCC.out.c0
  obtain ⟨q0, q1, q2, q3, q4⟩ := S1.out.sc
  go_wp2_with fail
  refine (HAA.out _ B1.out).mono ?_
  rintro e w2 ⟨rfl, hd⟩
  have S2 := Aside0.mk (S1.out.below hd.below)
  have B2 := Aside0.mk (below_on B1.out hd.below)
  have Z2 := Aside0.mk (Nat.le_trans Z1.out hd.below.size)
  clear hd c0 q0 q1 q2 q3 q4 S1 B1 Z1 HAA
  obtain ⟨q0, q1, q2, q3, q4⟩ := S2.out.sc
  have Q2 := Aside0.mk (HBB.out _ HQQ.out B2.out)
  have HL := Aside0.mk S2.out.b
  have HCX := HCC
  go_wp2_with (first | (refine wpList_load_arr rfl 65 (.tmp 4) rfl n rfl cs HL.out _ Tryd.underlying65 rfl (by rw [HCC.out.size]; kernel_rfl) ?_) | (refine wpList_store_arr rfl 65 (.tmp 6) (.tmp 120) rfl (n + 2) rfl cs rfl zero11 65 S2.out.r (HCX.out.size.symm) (by rw [HCX.out.size]; kernel_rfl) HCX.out.one ?_; intro w9 hf ho; have HF := Aside0.mk hf; have HO := Aside0.mk ho; clear hf ho))
  go_wp2_with fail
  refine bodyPost_ret (results_cell_row_tmp rfl _ _ (n + 2) 65 _ (0, 0) _ rfl HF.out Tryd.underlying65 rfl (by rw [HCX.out.size]; kernel_rfl)) rfl ?_
  exact ⟨cs, rfl, ⟨rfl, HSTAB.out _ _ Q2.out (.of_only HO.out ⟨by omega, by omega⟩)⟩, (OnlyP.of_below B2.out).new HO.out (by have := HNS.out; omega)⟩
set_option maxRecDepth 100000 in
set_option maxHeartbeats 8000000 in
theorem step_up (w : World) (B : Nat) (cs : Array Value) (Ab : Option Addr) (nl cb : Nat) (a mm x t e0 : Int) (HC : Cs11 cs Ab nl cb) (c1 c2 c3 c4 c5 : Value) (hcs : ∀ j v, (#[c1, c2, c3, c4, c5] : Array Value)[j]? = some v → cs[1 + j]? = some v) (C : Nat) (Y : Nat → Prop) (HY : ∀ k, Y k → k < w.heap.size) (Q : World → Prop) (HS : Stab w.heap.size Q) (QD : Array Value → World → Prop) (HSD : ∀ c, Stab w.heap.size (QD c))
    (HA : ∀ w', Below w.heap.size w w' → Calls Tryd.prog 48 #[.slice Ab nl cb, .int .u32 a, .int .i64 mm] w' fun e w'' => e = .returned (.int .i64 e0) ∧ Drawn0 w' w'')
    (HG : ∀ w', Below w.heap.size w w' → Calls Tryd.prog 24 #[.pointer (some ⟨B, 0, none⟩)] w' fun e w'' => e = .returned (.pointer (some ⟨C, 0, none⟩)) ∧ Drawn0 w' w'')
    (HP : ∀ w', Below w.heap.size w w' → w.heap.size + 3 ≤ w'.heap.size → Calls Tryd.prog 51 #[.pointer (some ⟨C, 0, none⟩), .int .u64 t] w' fun e w'' => e = .returned (.tuple #[]) ∧ Q w'' ∧ OnlyP Y w' w'')
    (HD : ∀ w', Q w' → w.heap.size + 3 ≤ w'.heap.size → Calls Tryd.prog 52 #[.agg #[c1, c2, c3, c4, c5], .int .u64 t] w' fun e w'' => ∃ d1 d2 d3 d4 d5, e = .returned (.agg #[d1, d2, d3, d4, d5]) ∧ (d1.oneCell' = true ∧ d2.oneCell' = true ∧ d3.oneCell' = true ∧ d4.oneCell' = true ∧ d5.oneCell' = true) ∧ QD (putAt cs 1 [d1, d2, d3, d4, d5]) w'' ∧ Below w'.heap.size w' w'') :
    Calls Tryd.prog 28 #[.pointer (some ⟨B, 0, none⟩), .agg cs, .agg #[.int .i64 3, .int .u32 a, .int .i64 mm, .int .u32 x, .int .u64 t]] w fun e w' => ∃ cs', e = .returned (.tuple #[.agg cs', .bool true]) ∧ QD cs' w' ∧ OnlyP Y w w' := by
  have HPP := Aside0.mk HP
  have HYY := Aside0.mk HY
  have HSTAB := Aside0.mk HSD
  have HDD := Aside0.mk HD
  have HGG := Aside0.mk HG
  have HCS := Aside0.mk hcs
  have HB := Aside0.mk (sbox_new w cs 3 a mm x t)
  have HCC := Aside0.mk HC
  have HAA := Aside0.mk HA
  obtain ⟨n, hn⟩ : ∃ n, w.heap.size = n := ⟨_, rfl⟩
  have HNS := Aside0.mk hn
  clear HC HA hn HP HY HSD HD HG hcs
  go_enter Tryd.func28, Tryd.ntmps28
  go_upto_region 1 with fail
  generalize hW : World.alloc (World.alloc (World.alloc w _) _) _ = w1
  obtain ⟨s1, b1, z1⟩ := HB.out w1 hW.symm
  have S1 := Aside0.mk s1
  have B1 := Aside0.mk b1
  have Z1 := Aside0.mk z1
  clear s1 b1 z1 hW HB
  have hNS := HNS.out
  rw [hNS] at S1 HSTAB ⊢
  clear hNS
  have c0 : w1.cell? ⟨n, 0, none⟩ = some (.slice Ab nl cb) := (blk_cell S1.out.b 0).trans HCC.out.c0
  obtain ⟨q0, q1, q2, q3, q4⟩ := S1.out.sc
  go_wp2_with fail
  refine (HAA.out _ B1.out).mono ?_
  rintro e w2 ⟨rfl, hd⟩
  have S2 := Aside0.mk (S1.out.below hd.below)
  have B2 := Aside0.mk (below_on B1.out hd.below)
  have Z2 := Aside0.mk (Nat.le_trans Z1.out hd.below.size)
  clear hd c0 q0 q1 q2 q3 q4 S1 B1 Z1 HAA
  obtain ⟨q0, q1, q2, q3, q4⟩ := S2.out.sc
  go_upto_region 15 with fail
  have HI0 : Aside0 (Below w2.heap.size w2 w2.drew) := ⟨⟨rfl, rfl, rfl, Nat.le_refl _, fun _ _ => rfl⟩⟩
  refine wp_region_rjk (by kernel_rfl) 4 (fun W' => Below w2.heap.size w2 W') (fun _ x y => Below x.heap.size x y) (fun _ _ => false) (fun i v _ => match i with | 0 => v = .pointer (some ⟨B, 0, none⟩) | 1 => v = .pointer (some ⟨C, 0, none⟩) | 2 => v = .pointer (some ⟨n + 1, 4, none⟩) | 3 => v = .int .u64 t | _ => True) (by kernel_rfl) ?hR HI0.out ?step ?fin
  case hR =>
    intro i j v w w' _ _ h k
    exact h
  case step =>
    intro i op hi him b W' hinv hkeep hdef hpre K hK
    have HI := Aside0.mk hinv
    have HPRE := Aside0.mk hpre
    have HKEEP := Aside0.mk hkeep
    have HKK := Aside0.mk hK
    clear hinv hpre hkeep hK hdef
    obtain rfl | rfl | rfl | rfl : i = 0 ∨ i = 1 ∨ i = 2 ∨ i = 3 := by omega
    · cases hi
      have e0 : b.tmps.getD 0 undef = .pointer (some ⟨B, 0, none⟩) := HKEEP.out 0 (by kernel_rfl)
      rw [if_pos (by rfl)]
      go_simp
      exact HKK.out _ _ HI.out (Below.refl _ _) rfl
    · cases hi
      have e109 : b.tmps.getD 109 undef = .pointer (some ⟨B, 0, none⟩) := HPRE.out 0 (by kernel_rfl) (by omega) (by intros; rfl)
      rw [if_pos (by rfl)]
      go_simp
      refine (HGG.out _ (below_on B2.out HI.out)).mono ?_
      rintro e W2 ⟨rfl, d⟩
      exact HKK.out _ _ (below_on HI.out d.below) d.below rfl
    · cases hi
      have e5 : b.tmps.getD 5 undef = .pointer (some ⟨n + 1, 0, none⟩) := HKEEP.out 5 (by kernel_rfl)
      rw [if_pos (by rfl)]
      go_simp
      exact HKK.out _ _ HI.out (Below.refl _ _) rfl
    · cases hi
      have e111 : b.tmps.getD 111 undef = .pointer (some ⟨n + 1, 4, none⟩) := HPRE.out 2 (by kernel_rfl) (by omega) (by intros; rfl)
      have c4 : W'.cell? ⟨n + 1, 4, none⟩ = some (.int .u64 t) := (S2.out.below HI.out).sc.2.2.2.2
      rw [if_pos (by rfl)]
      go_simp
      exact HKK.out _ _ HI.out (Below.refl _ _) rfl
  case fin =>
    intro b W' hinv hsz hdef hkeep hpost
    have e110 : b.tmps.getD 110 undef = .pointer (some ⟨C, 0, none⟩) := hpost 1 (by omega) (by intros; rfl)
    have e112 : b.tmps.getD 112 undef = .int .u64 t := hpost 3 (by omega) (by intros; rfl)
    have k4 : b.tmps.getD 4 undef = .pointer (some ⟨n, 0, none⟩) := hkeep 4 (by kernel_rfl)
    have k5 : b.tmps.getD 5 undef = .pointer (some ⟨n + 1, 0, none⟩) := hkeep 5 (by kernel_rfl)
    have k6 : b.tmps.getD 6 undef = .pointer (some ⟨n + 2, 0, none⟩) := hkeep 6 (by kernel_rfl)
    refine rj_lastv (by kernel_rfl) rfl (by kernel_rfl) rfl (by kernel_rfl) ?_
    obtain ⟨sl, hlit, hsl⟩ := act_let b 121 hsz
    rw [hdef] at hlit
    rw [← hsl] at e110 e112 k4 k5 k6
    simp only [show List.range 121 = [0, 1, 2, 3, 4, 5, 6, 7, 8, 9, 10, 11, 12, 13, 14, 15, 16, 17, 18, 19, 20, 21, 22, 23, 24, 25, 26, 27, 28, 29, 30, 31, 32, 33, 34, 35, 36, 37, 38, 39, 40, 41, 42, 43, 44, 45, 46, 47, 48, 49, 50, 51, 52, 53, 54, 55, 56, 57, 58, 59, 60, 61, 62, 63, 64, 65, 66, 67, 68, 69, 70, 71, 72, 73, 74, 75, 76, 77, 78, 79, 80, 81, 82, 83, 84, 85, 86, 87, 88, 89, 90, 91, 92, 93, 94, 95, 96, 97, 98, 99, 100, 101, 102, 103, 104, 105, 106, 107, 108, 109, 110, 111, 112, 113, 114, 115, 116, 117, 118, 119, 120] from rfl, List.map_cons, List.map_nil, e110, e112, k4, k5, k6] at hlit
    rw [hlit]
    have S3 := Aside0.mk (S2.out.below hinv)
    have B3 := Aside0.mk (below_on B2.out hinv)
    have Z3 := Aside0.mk (Nat.le_trans Z2.out hinv.size)
    clear hkeep hsz hdef e110 e112 k4 k5 k6 hsl hlit hpost hinv S2 B2 Z2 q0 q1 q2 q3 q4
    go_simp
    refine (HPP.out _ B3.out Z3.out).mono ?_
    rintro e w3 ⟨rfl, hq, ho⟩
    have S4 := Aside0.mk (S3.out.move ho (fun k hk => by have := HYY.out k hk; unfold N3; have := HNS.out; omega))
    have Q4 := Aside0.mk hq
    have O4 := Aside0.mk ((OnlyP.of_below B3.out).trans ho)
    have Z4 := Aside0.mk (Nat.le_trans Z3.out ho.size)
    clear hq ho S3 B3 Z3 HPP
    obtain ⟨q0, q1, q2, q3, q4⟩ := S4.out.sc
    have HRG : Aside0 (w3.rangeAt n 1 [c1, c2, c3, c4, c5]) := ⟨fun j v hv => by rw [cell_of_row w3 n (1 + j) _ _ _ S4.out.b]; exact HCS.out j v (by simpa using hv)⟩
    go_wp2_with (refine wpList_load_mid rfl 60 (.tmp 114) rfl n 1 rfl [c1, c2, c3, c4, c5] _ HRG.out Tryd.underlying60 rfl (by kernel_rfl) ?_)
    refine (HDD.out _ Q4.out Z4.out).mono ?_
    rintro e w4 ⟨d1, d2, d3, d4, d5, rfl, hone, hq, hd⟩
    have S5 := Aside0.mk (S4.out.below hd)
    have Q5 := Aside0.mk hq
    have O5 := Aside0.mk (O4.out.trans (.of_below hd))
    have HON := Aside0.mk hone
    have HTH := Aside0.mk (there_mid S5.out.b 1 5 (by rw [HCC.out.size]; decide))
    have FS2 : Aside0 ((w4.setCells n 1 (#[d1, d2, d3, d4, d5] : Array Value).toList).heap[n]? = some (.cells (putAt cs 1 [d1, d2, d3, d4, d5]) 65 (0, 0)) ∧ Only n w4 (w4.setCells n 1 (#[d1, d2, d3, d4, d5] : Array Value).toList)) := ⟨blk_setCells _ 1 _ _ S5.out.b, only_setCells _ _ _⟩
    have HC2 : Aside0 ((putAt cs 1 [d1, d2, d3, d4, d5]).size = 11 ∧ (putAt cs 1 [d1, d2, d3, d4, d5]).all (·.oneCell') = true) := ⟨put5_ok HCC.out.size HCC.out.one hone⟩
    clear hq hone hd HDD q0 q1 q2 q3 q4 S4 Q4 Z4 HRG
    go_wp2_with (refine wpList_store_mid rfl 60 (.tmp 119) (.tmp 118) rfl n 1 #[d1, d2, d3, d4, d5] rfl rfl HTH.out (by kernel_rfl) (by simp [HON.out.1, HON.out.2.1, HON.out.2.2.1, HON.out.2.2.2.1, HON.out.2.2.2.2]) ?_; refine Aside0.out (?_ : Aside0 _))
    refine ⟨?_⟩
    obtain ⟨w6, hw6⟩ : ∃ w6, w4.setCells n 1 (#[d1, d2, d3, d4, d5] : Array Value).toList = w6 := ⟨_, rfl⟩
    rw [hw6] at FS2 ⊢
    obtain ⟨cs2, hcs2⟩ : ∃ c, putAt cs 1 [d1, d2, d3, d4, d5] = c := ⟨_, rfl⟩
    rw [hcs2] at FS2 HC2 Q5
    have Q6 := Aside0.mk (HSTAB.out _ _ _ Q5.out (.of_only FS2.out.2 ⟨by omega, by omega⟩))
    have O6 := Aside0.mk (O5.out.new FS2.out.2 (by have := HNS.out; omega))
    have R6 : Aside0 (w6.heap[n + 2]? = some (.cells zero11 65 (0, 0))) := ⟨blk_only S5.out.r FS2.out.2 (by omega)⟩
    have HL : Aside0 (w6.heap[n]? = some (.cells cs2 65 (0, 0))) := ⟨FS2.out.1⟩
    clear hw6 hcs2 HTH S5 Q5 FS2
    go_wp2_with (first
      | (refine wpList_load_arr rfl 65 (.tmp 4) rfl n rfl cs2 HL.out _ Tryd.underlying65 rfl (by rw [HC2.out.1]; kernel_rfl) ?_)
      | (refine wpList_store_arr rfl 65 (.tmp 6) (.tmp 120) rfl (n + 2) rfl cs2 rfl zero11 65 R6.out HC2.out.1.symm (by rw [HC2.out.1]; kernel_rfl) HC2.out.2 ?_; intro w9 hf ho; have HF := Aside0.mk hf; have HO := Aside0.mk ho; clear hf ho))
    go_wp2_with fail
    refine bodyPost_ret (results_cell_row_tmp rfl _ _ (n + 2) 65 _ (0, 0) _ rfl HF.out Tryd.underlying65 rfl (by rw [HC2.out.1]; kernel_rfl)) rfl ?_
    exact ⟨cs2, rfl, HSTAB.out _ _ _ Q6.out (.of_only HO.out ⟨by omega, by omega⟩), O6.out.new HO.out (by have := HNS.out; omega)⟩
end Go.Proofs.YtdalboofhckobaaDoor
