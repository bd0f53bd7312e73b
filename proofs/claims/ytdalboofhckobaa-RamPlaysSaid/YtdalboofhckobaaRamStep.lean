/- The statements' 'step' on a memory: a step, done by both. -/
import Derived.Test.YtdalboofhckobaaRamP
namespace Go.Proofs.Ytdalboofhckobaa
open Go Go.RowKit Go.Deep Go.Proofs.YtdalboofhckobaaW.PrintWords Go.Proofs.Ytdalboofhckobaa.QRamPlays
set_option linter.unusedVariables false
set_option linter.unusedSimpArgs false

/-- The memory's own rows. -/
def XR (BB BW BG : Nat) (b : Nat) : Prop := b = BB ∨ b = BW ∨ b = BG
def XRG (BB BW BG G : Nat) (b : Nat) : Prop := XR BB BW BG b ∨ b = G
/-- The boxes of a step. -/
structure RBox (w : World) (B D G : Nat) (a b c k d m x s : Value) : Prop where
  b : w.heap[B]? = some (.cells #[a, b, c] 41 (0, 0))
  s : w.heap[D]? = some (.cells #[k, d, m, x, s] 46 (0, 0))
  r : w.heap[G]? = some (.cells #[.slice none 0 0, .slice none 0 0, .slice none 0 0] 41 (0, 0))
section
variable {w w' : World} {B D G : Nat} {a b c k d m x s : Value}
theorem rbox_new (w : World) (a b c k d m x s : Value) : ∀ w1, w1 = (((w.alloc (.cells #[a, b, c] 41)).alloc (.cells #[k, d, m, x, s] 46)).alloc (.cells #[.slice none 0 0, .slice none 0 0, .slice none 0 0] 41)) → RBox w1 w.heap.size (w.heap.size + 1) (w.heap.size + 1 + 1) a b c k d m x s ∧ Below w.heap.size w w1 := by
  rintro w1 rfl
  have h1 := blk_new w (.cells #[a, b, c] 41)
  have h2 := blk_new (w.alloc (.cells #[a, b, c] 41)) (.cells #[k, d, m, x, s] 46)
  have h3 := blk_new ((w.alloc (.cells #[a, b, c] 41)).alloc (.cells #[k, d, m, x, s] 46)) (.cells #[.slice none 0 0, .slice none 0 0, .slice none 0 0] 41)
  rw [World.size_alloc] at h2 h3
  rw [World.size_alloc] at h3
  have b2 := below_alloc (Below.refl _ (w.alloc (.cells #[a, b, c] 41))) (.cells #[k, d, m, x, s] 46)
  have b3 := below_alloc (Below.refl _ ((w.alloc (.cells #[a, b, c] 41)).alloc (.cells #[k, d, m, x, s] 46))) (.cells #[.slice none 0 0, .slice none 0 0, .slice none 0 0] 41)
  exact ⟨⟨blk_below (blk_below h1 b2) b3, blk_below h2 b3, h3⟩, below_alloc (below_alloc (below_alloc (Below.refl _ _) _) _) _⟩
theorem RBox.move (h : RBox w B D G a b c k d m x s) {Y : Nat → Prop} (ho : OnlyP Y w w') (h1 : ¬ Y B) (h2 : ¬ Y D) (h3 : ¬ Y G) : RBox w' B D G a b c k d m x s :=
  ⟨(ho.block _ (blk_lt h.b) h1).trans h.b, (ho.block _ (blk_lt h.s) h2).trans h.s, (ho.block _ (blk_lt h.r) h3).trans h.r⟩
theorem RBox.below (h : RBox w B D G a b c k d m x s) (hb : Below w.heap.size w w') : RBox w' B D G a b c k d m x s := ⟨blk_below h.b hb, blk_below h.s hb, blk_below h.r hb⟩
theorem RBox.cb (h : RBox w B D G a b c k d m x s) : w.cell? ⟨B, 0, none⟩ = some a ∧ w.cell? ⟨B, 1, none⟩ = some b ∧ w.cell? ⟨B, 2, none⟩ = some c :=
  ⟨(blk_cell h.b 0).trans rfl, (blk_cell h.b 1).trans rfl, (blk_cell h.b 2).trans rfl⟩
theorem RBox.cs (h : RBox w B D G a b c k d m x s) : w.cell? ⟨D, 0, none⟩ = some k ∧ w.cell? ⟨D, 1, none⟩ = some d ∧ w.cell? ⟨D, 2, none⟩ = some m ∧ w.cell? ⟨D, 3, none⟩ = some x ∧ w.cell? ⟨D, 4, none⟩ = some s :=
  ⟨(blk_cell h.s 0).trans rfl, (blk_cell h.s 1).trans rfl, (blk_cell h.s 2).trans rfl, (blk_cell h.s 3).trans rfl, (blk_cell h.s 4).trans rfl⟩
theorem RBox.cr (h : RBox w B D G a b c k d m x s) : (w.cell? ⟨G, 0, none⟩ = some (.slice none 0 0) ∧ w.cell? ⟨G, 1, none⟩ = some (.slice none 0 0) ∧ w.cell? ⟨G, 2, none⟩ = some (.slice none 0 0)) ∧ ∀ i, w.frozen? ⟨G, i, none⟩ = false :=
  ⟨⟨(blk_cell h.r 0).trans rfl, (blk_cell h.r 1).trans rfl, (blk_cell h.r 2).trans rfl⟩, blk_frozen h.r⟩
end
/-- A memory of the program's, and the document's, that are the same. -/
structure RSame (w : World) (R BB BW BG n k : Nat) (l : List Int) (ws : List Bool) (gs : List Int) (v : Value) : Prop where
  r : IsRam w R BB BW BG n k l ws gs
  v : VRam w (XR BB BW BG) v l ws gs
  u : U8 l
  n0 : 64 ≤ n ∧ n ≤ 65536 ∧ k * 64 = n
/-- What a step leaves. -/
def RStepEnd (w : World) (R BB BW BG n k : Nat) (e : Ending) (w' : World) : Prop :=
  ∃ v' l' ws' gs', e = .returned (.tuple #[v', .bool true]) ∧ RSame w' R BB BW BG n k l' ws' gs' v' ∧ OnlyP (XR BB BW BG) w w'
theorem xr_only {B BB BW BG : Nat} {w w' : World} (h : Only B w w') (hB : XR BB BW BG B) : OnlyP (XR BB BW BG) w w' := .of_only h hB
theorem VRam.wide {w : World} {X Y : Nat → Prop} {v : Value} {l : List Int} {ws : List Bool} {gs : List Int} (h : VRam w X v l ws gs) (hY : ∀ k, Y k → X k ∨ w.heap.size ≤ k) : VRam w Y v l ws gs := by
  obtain ⟨A1, c1, A2, c2, A3, c3, rfl, h1, h2, h3⟩ := h
  exact ⟨A1, c1, A2, c2, A3, c3, rfl, h1.wide hY, h2.wide hY, h3.wide hY⟩
theorem IsRam.only {w w' : World} {R BB BW BG n k : Nat} {l : List Int} {ws : List Bool} {gs : List Int} {B : Nat} (h : IsRam w R BB BW BG n k l ws gs) (o : Only B w w') (hB : B ≠ R ∧ B ≠ BB ∧ B ≠ BW ∧ B ≠ BG) : IsRam w' R BB BW BG n k l ws gs :=
  ⟨blk_only h.r o hB.1.symm, blk_only h.b o hB.2.1.symm, blk_only h.f o hB.2.2.1.symm, blk_only h.g o hB.2.2.2.symm, h.nl, h.nw, h.ng, h.rb, h.rf, h.rg, h.bf, h.bg, h.fg⟩
theorem IsRam.lt {w : World} {R BB BW BG n k : Nat} {l : List Int} {ws : List Bool} {gs : List Int} (h : IsRam w R BB BW BG n k l ws gs) : R < w.heap.size ∧ BB < w.heap.size ∧ BW < w.heap.size ∧ BG < w.heap.size := ⟨blk_lt h.r, blk_lt h.b, blk_lt h.f, blk_lt h.g⟩
/-- A region's ways: writes to the box G alone, and what holds of its filling goes on holding. -/
def RG (G : Nat) (F : World → Prop) (x y : World) : Prop := Only G x y ∧ (F x → F y)
theorem RG.refl (G : Nat) (F : World → Prop) (x : World) : RG G F x x := ⟨Only.refl G x, id⟩
theorem RG.of_below {G : Nat} {F : World → Prop} (hF : ∀ x y : World, F x → Below x.heap.size x y → F y) {x y : World} (h : Below x.heap.size x y) : RG G F x y := ⟨.of_below h, fun e => hF x y e h⟩
def IG (G : Nat) (w0 w : World) : Prop := Only G w0 w ∧ ∃ cs, w.heap[G]? = some (.cells cs 41 (0, 0)) ∧ cs.size = 3
theorem IG.below {G : Nat} {w0 w w' : World} (h : IG G w0 w) (d : Below w.heap.size w w') : IG G w0 w' := ⟨h.1.on d, by obtain ⟨cs, h1, h2⟩ := h.2; exact ⟨cs, blk_below h1 d, h2⟩⟩
/-- The box is filled. -/
theorem fill_ig {G : Nat} {w0 w : World} (h : IG G w0 w) (a b c : Value) : IG G w0 (w.setCells G 0 [a, b, c]) ∧ Only G w (w.setCells G 0 [a, b, c]) ∧ (w.setCells G 0 [a, b, c]).heap[G]? = some (.cells #[a, b, c] 41 (0, 0)) := by
  obtain ⟨h1, cs, h2, h3⟩ := h
  have hs := store3 h2 h3 a b c
  exact ⟨⟨h1.trans hs.2, _, hs.1, rfl⟩, hs.2, hs.1⟩
/-- The box holds these. -/
def FullG (G : Nat) (cs : Array Value) (w : World) : Prop := w.heap[G]? = some (.cells cs 41 (0, 0))
theorem FullG.below {G : Nat} {cs : Array Value} (x y : World) (h : FullG G cs x) (k : Below x.heap.size x y) : FullG G cs y := blk_below h k
theorem ig_there {G : Nat} {w0 w : World} (h : IG G w0 w) : w.there G 0 3 := fun j hj => by
  obtain ⟨h1, cs, h2, h3⟩ := h
  rw [Nat.zero_add]
  exact ⟨by rw [cell_of_row w G j _ _ _ h2]; simp [h3, hj], blk_frozen h2 j⟩
/-- Behind a store into a box of its own. -/
theorem rstep_fin {w0 w w1 : World} {R BB BW BG n k G : Nat} {l : List Int} {ws : List Bool} {gs : List Int} {a b c : Value} (hr : IsRam w R BB BW BG n k l ws gs) (hv : VRam w (XRG BB BW BG G) (.agg #[a, b, c]) l ws gs) (hu : U8 l) (hn : 64 ≤ n ∧ n ≤ 65536 ∧ k * 64 = n) (hO : OnlyP (XR BB BW BG) w0 w) (hG : w0.heap.size ≤ G) (hlt : R < w0.heap.size ∧ BB < w0.heap.size ∧ BW < w0.heap.size ∧ BG < w0.heap.size) (ho : Only G w w1) :
    RStepEnd w0 R BB BW BG n k (.returned (.tuple #[.agg #[a, b, c], .bool true])) w1 := by
  refine ⟨_, l, ws, gs, rfl, ⟨hr.only ho (by omega), ?_, hu, hn⟩, ?_⟩
  · exact (hv.onlyP (.of_only ho (.inr rfl))).wide fun k hk => .inl (.inl hk)
  · exact ⟨ho.os.trans hO.os, ho.tape.trans hO.tape, ho.output.trans hO.output, Nat.le_trans hO.size ho.size, fun k hk hn => (ho.block k (Nat.lt_of_lt_of_le hk hO.size) (by omega)).trans (hO.block k hk hn)⟩

theorem vram_rows {w : World} {X : Nat → Prop} {A1 A2 A3 : Option Addr} {l : List Int} {ws : List Bool} {gs : List Int} {c1 c2 c3 : Nat} (h : VRam w X (.agg #[.slice A1 l.length c1, .slice A2 ws.length c2, .slice A3 gs.length c3]) l ws gs) : VS (Value.int .u8) w X A1 c1 l ∧ VS Value.bool w X A2 c2 ws ∧ VS (Value.int .u64) w X A3 c3 gs := by
  obtain ⟨A1', c1', A2', c2', A3', c3', he, h1, h2, h3⟩ := h
  simp at he
  obtain ⟨⟨rfl, rfl⟩, ⟨rfl, rfl⟩, rfl, rfl⟩ := he
  exact ⟨h1, h2, h3⟩
def post1n (G : Nat) (A1 A2 A3 : Option Addr) (c1 c2 c3 : Nat) (l : List Int) (ws : List Bool) (gs : List Int) (e0 : Int) (i : Nat) (v : Value) (w : World) : Prop :=
  match i with
  | 0 => v = .agg #[.slice A1 l.length c1, .slice A2 ws.length c2, .slice A3 gs.length c3]
  | 1 => v = .int .i64 e0
  | 2 => v = .int .i64 e0
  | 3 => v = .bool true
  | 4 => v = .bool true
  | 5 => v = .int .i64 e0
  | 6 => v = .bool true
  | 7 => v = .bool true
  | 8 => v = .int .u32 0
  | 9 => v = .bool true
  | 10 => v = .bool true
  | 11 => v = .bool true
  | 12 => v = undef
  | 13 => v = undef
  | 14 => v = undef
  | 15 => v = undef
  | 16 => v = undef
  | 17 => v = undef
  | 18 => v = undef
  | 19 => v = undef
  | 20 => v = undef
  | 21 => v = undef
  | 22 => v = undef
  | 23 => v = undef
  | 24 => v = undef
  | 25 => v = .bool true
  | 26 => v = .bool true
  | 27 => FullG G #[.slice A1 l.length c1, .slice A2 ws.length c2, .slice A3 gs.length c3] w
  | _ => True
theorem post1n_rg {G : Nat} {A1 A2 A3 : Option Addr} {c1 c2 c3 : Nat} {l : List Int} {ws : List Bool} {gs : List Int} {e0 : Int} (j : Nat) (v : Value) (w w' : World) (h : post1n G A1 A2 A3 c1 c2 c3 l ws gs e0 j v w) (k : RG G (FullG G #[.slice A1 l.length c1, .slice A2 ws.length c2, .slice A3 gs.length c3]) w w') : post1n G A1 A2 A3 c1 c2 c3 l ws gs e0 j v w' := by
  unfold post1n at h ⊢
  split at h
  all_goals first | exact h | exact k.2 h

set_option maxRecDepth 100000 in
set_option maxHeartbeats 4000000 in
theorem rstep1_no (w : World) {R BB BW BG n k : Nat} {l : List Int} {ws : List Bool} {gs : List Int} {v : Value} (kd a m x : Int) (ps : Option Addr) (ns cs : Nat) (H : RSame w R BB BW BG n k l ws gs v) (a0 : 0 ≤ a) (a1 : a < 4294967296) (x0 : 0 ≤ x) (x1 : x < 4294967296) (e0 : Int) (he : rasked n a m = e0) (hz : (e0 != 0) = true) (hz0 : (e0 == 0) = false) :
    Calls Try.prog 21 #[.pointer (some ⟨R, 0, none⟩), v, .agg #[.int .i64 1, .int .u32 a, .int .i64 m, .int .u32 x, .slice ps ns cs]] w (RStepEnd w R BB BW BG n k) := by
  obtain ⟨P, hP⟩ : ∃ P, P = RStepEnd w R BB BW BG n k := ⟨_, rfl⟩
  rw [← hP]
  have HP := Aside0.mk hP
  clear hP
  obtain ⟨hr, hv, hu, hn⟩ := H
  have HN := Aside0.mk hn
  have hn1 := hn.2.1
  have hlen := hr.nl
  obtain ⟨A1, c1, A2, c2, A3, c3, rfl, v1, v2, v3⟩ := hv
  have HV0 : VRam w (XR BB BW BG) (.agg #[.slice A1 l.length c1, .slice A2 ws.length c2, .slice A3 gs.length c3]) l ws gs := ⟨A1, c1, A2, c2, A3, c3, rfl, v1, v2, v3⟩
  have HBX := Aside0.mk (rbox_new w (.slice A1 l.length c1) (.slice A2 ws.length c2) (.slice A3 gs.length c3) (.int .i64 1) (.int .u32 a) (.int .i64 m) (.int .u32 x) (.slice ps ns cs))
  obtain ⟨B, h0⟩ : ∃ B, w.heap.size = B := ⟨_, rfl⟩
  obtain ⟨D, h1⟩ : ∃ D, w.heap.size + 1 = D := ⟨_, rfl⟩
  obtain ⟨G, h2⟩ : ∃ G, w.heap.size + 1 + 1 = G := ⟨_, rfl⟩
  have HLT := Aside0.mk hr.lt
  have HR := Aside0.mk hr
  have HU := Aside0.mk hu
  have HV1 := Aside0.mk (HV0.wide (Y := XRG BB BW BG G) (fun k hk => hk.imp id (fun e => by omega)))
  have HS := Aside0.mk (And.intro h0 (And.intro h1 h2))
  have HLN := Aside0.mk hlen
  have HE := Aside0.mk he
  clear he
  clear hn hr HV0 hu h0 h1 h2 v1 v2 v3 hlen
  go_enter Try.func21, Try.ntmps21
  go_upto_region 1 with fail
  generalize hW : World.alloc (World.alloc (World.alloc w _) _) _ = w1
  obtain ⟨t1', b1⟩ := HBX.out w1 hW.symm
  rw [HS.out.2.2, HS.out.2.1, HS.out.1] at t1'
  have T1 := Aside0.mk t1'
  have R1 := Aside0.mk (HR.out.below b1)
  have O1 := Aside0.mk (OnlyP.of_below (P := XR BB BW BG) b1)
  have V1 := Aside0.mk (HV1.out.below b1)
  rw [HS.out.2.2, HS.out.2.1, HS.out.1]
  have HGE : Aside0 (w.heap.size ≤ B ∧ w.heap.size ≤ D ∧ w.heap.size ≤ G ∧ B ≠ G ∧ D ≠ G ∧ B ≠ D) := ⟨by have := HS.out; omega⟩
  have HXB : Aside0 (¬ XR BB BW BG B ∧ ¬ XR BB BW BG D ∧ ¬ XR BB BW BG G) := ⟨by
    have h1 := HS.out; have h2 := HLT.out
    refine ⟨?_, ?_, ?_⟩ <;> (rintro (h | h | h) <;> omega)⟩
  clear hW HBX HR HV1 b1 t1'
  obtain ⟨q0, q1, q2⟩ := T1.out.cb
  obtain ⟨s0, s1, s2, s3, s4⟩ := T1.out.cs
  obtain ⟨⟨r0, r1, r2⟩, zr⟩ := T1.out.cr
  go_wp2_with fail
  refine (load_no _ a m e0 R1.out hn1 a0 a1 HE.out hz).mono ?_
  rintro e w2 ⟨rfl, d⟩
  have T2 := Aside0.mk (T1.out.below d.below)
  have R2 := Aside0.mk (R1.out.drawn d)
  have O2 := Aside0.mk (O1.out.drawn d)
  have V2 := Aside0.mk (V1.out.below d.below)
  clear d T1 R1 O1 V1
  clear q0 q1 q2 s0 s1 s2 s3 s4 r0 r1 r2 zr
  obtain ⟨q0, q1, q2⟩ := T2.out.cb
  obtain ⟨s0, s1, s2, s3, s4⟩ := T2.out.cs
  obtain ⟨⟨r0, r1, r2⟩, zr⟩ := T2.out.cr
  go_wp2_with fail
  refine (mimesisref10_Asked.calls A1 c1 l a m e0 _ (vram_rows V2.out).1.C (vram_rows V2.out).1.le (by rw [asked_f l a m (by have := HLN.out; omega) a0 a1, HLN.out, HE.out])).mono ?_
  rintro e w3 ⟨rfl, d⟩
  have T3 := Aside0.mk (T2.out.below d.below)
  have R3 := Aside0.mk (R2.out.drawn d)
  have O3 := Aside0.mk (O2.out.drawn d)
  have V3 := Aside0.mk (V2.out.below d.below)
  clear d T2 R2 O2 V2
  clear q0 q1 q2 s0 s1 s2 s3 s4 r0 r1 r2 zr
  obtain ⟨q0, q1, q2⟩ := T3.out.cb
  obtain ⟨s0, s1, s2, s3, s4⟩ := T3.out.cs
  obtain ⟨⟨r0, r1, r2⟩, zr⟩ := T3.out.cr
  go_wp2_with fail
  have HT := Aside0.mk T3.out
  have HI0 : Aside0 (IG G w3 w3.drew) := ⟨(Only.refl G w3).drew, _, HT.out.r, rfl⟩
  refine wp_region_rj (by kernel_rfl) 28 (fun W' => IG G w3 W') (fun x y => RG G (FullG G #[.slice A1 l.length c1, .slice A2 ws.length c2, .slice A3 gs.length c3]) x y) (post1n G A1 A2 A3 c1 c2 c3 l ws gs e0) (by kernel_rfl) post1n_rg HI0.out ?step ?fin
  case step =>
    clear q0 q1 q2 s0 s1 s2 s3 s4 r0 r1 r2 zr
    intro i o hi him b W' hinv hkeep hdef hpre K hK
    have HI := Aside0.mk hinv
    have HPRE := Aside0.mk hpre
    have HKEEP := Aside0.mk hkeep
    have HKK := Aside0.mk hK
    clear hinv hpre hkeep hK hdef
    obtain rfl | rfl | rfl | rfl | rfl | rfl | rfl | rfl | rfl | rfl | rfl | rfl | rfl | rfl | rfl | rfl | rfl | rfl | rfl | rfl | rfl | rfl | rfl | rfl | rfl | rfl | rfl | rfl : i = 0 ∨ i = 1 ∨ i = 2 ∨ i = 3 ∨ i = 4 ∨ i = 5 ∨ i = 6 ∨ i = 7 ∨ i = 8 ∨ i = 9 ∨ i = 10 ∨ i = 11 ∨ i = 12 ∨ i = 13 ∨ i = 14 ∨ i = 15 ∨ i = 16 ∨ i = 17 ∨ i = 18 ∨ i = 19 ∨ i = 20 ∨ i = 21 ∨ i = 22 ∨ i = 23 ∨ i = 24 ∨ i = 25 ∨ i = 26 ∨ i = 27 := by omega
    · cases hi
      have e4 : b.tmps.getD 4 undef = .pointer (some ⟨B, 0, none⟩) := HKEEP.out 4 (by kernel_rfl)
      have c0 : W'.cell? ⟨B, 0, none⟩ = some (.slice A1 l.length c1) := (blk_cell (blk_only HT.out.b HI.out.1 HGE.out.2.2.2.1) 0).trans rfl
      have c1' : W'.cell? ⟨B, 1, none⟩ = some (.slice A2 ws.length c2) := (blk_cell (blk_only HT.out.b HI.out.1 HGE.out.2.2.2.1) 1).trans rfl
      have c2' : W'.cell? ⟨B, 2, none⟩ = some (.slice A3 gs.length c3) := (blk_cell (blk_only HT.out.b HI.out.1 HGE.out.2.2.2.1) 2).trans rfl
      rw [if_pos (by rfl)]
      go_simp
      exact HKK.out _ _ HI.out (RG.refl _ _ _) (by first | rfl | (simp; done))
    · cases hi
      have e9 : b.tmps.getD 9 undef = .int .i64 e0 := HKEEP.out 9 (by kernel_rfl)
      rw [if_pos (by rfl)]
      go_simp
      exact HKK.out _ _ HI.out (RG.refl _ _ _) (by first | rfl | (simp; done))
    · cases hi
      have e10 : b.tmps.getD 10 undef = .int .i64 e0 := HKEEP.out 10 (by kernel_rfl)
      rw [if_pos (by rfl)]
      go_simp
      exact HKK.out _ _ HI.out (RG.refl _ _ _) (by first | rfl | (simp; done))
    · cases hi
      have e40 : b.tmps.getD 40 undef = .int .i64 e0 := HPRE.out 1 (by kernel_rfl) (by omega)
      have e41 : b.tmps.getD 41 undef = .int .i64 e0 := HPRE.out 2 (by kernel_rfl) (by omega)
      rw [if_pos (by rfl)]
      go_simp
      exact HKK.out _ _ HI.out (RG.refl _ _ _) (by first | rfl | (simp; done))
    · cases hi
      have e42 : b.tmps.getD 42 undef = .bool true := HPRE.out 3 (by kernel_rfl) (by omega)
      rw [if_pos (by rfl)]
      go_simp
      exact HKK.out _ _ HI.out (RG.refl _ _ _) (by first | rfl | (simp; done))
    · cases hi
      have e43 : b.tmps.getD 43 undef = .bool true := HPRE.out 4 (by kernel_rfl) (by omega)
      have e10 : b.tmps.getD 10 undef = .int .i64 e0 := HKEEP.out 10 (by kernel_rfl)
      rw [if_pos (wanted_yes rfl rfl rfl e43)]
      go_simp
      exact HKK.out _ _ HI.out (RG.refl _ _ _) (by first | rfl | (simp; done))
    · cases hi
      have e43 : b.tmps.getD 43 undef = .bool true := HPRE.out 4 (by kernel_rfl) (by omega)
      have e44 : b.tmps.getD 44 undef = .int .i64 e0 := HPRE.out 5 (by kernel_rfl) (by omega)
      rw [if_pos (wanted_yes rfl rfl rfl e43)]
      go_simp
      exact HKK.out _ _ HI.out (RG.refl _ _ _) (by first | rfl | (simp; done))
    · cases hi
      have e43 : b.tmps.getD 43 undef = .bool true := HPRE.out 4 (by kernel_rfl) (by omega)
      have e45 : b.tmps.getD 45 undef = .bool true := HPRE.out 6 (by kernel_rfl) (by omega)
      rw [if_pos (wanted_yes rfl rfl rfl e43)]
      go_simp
      exact HKK.out _ _ HI.out (RG.refl _ _ _) (by first | rfl | (simp; done))
    · cases hi
      have e46 : b.tmps.getD 46 undef = .bool true := HPRE.out 7 (by kernel_rfl) (by omega)
      have e8 : b.tmps.getD 8 undef = .int .u32 0 := HKEEP.out 8 (by kernel_rfl)
      rw [if_pos (wanted_yes rfl rfl rfl e46)]
      go_simp
      exact HKK.out _ _ HI.out (RG.refl _ _ _) (by first | rfl | (simp; done))
    · cases hi
      have e46 : b.tmps.getD 46 undef = .bool true := HPRE.out 7 (by kernel_rfl) (by omega)
      have e47 : b.tmps.getD 47 undef = .int .u32 0 := HPRE.out 8 (by kernel_rfl) (by omega)
      rw [if_pos (wanted_yes rfl rfl rfl e46)]
      go_simp
      exact HKK.out _ _ HI.out (RG.refl _ _ _) (by first | rfl | (simp; done))
    · cases hi
      have e43 : b.tmps.getD 43 undef = .bool true := HPRE.out 4 (by kernel_rfl) (by omega)
      have e46 : b.tmps.getD 46 undef = .bool true := HPRE.out 7 (by kernel_rfl) (by omega)
      have e48 : b.tmps.getD 48 undef = .bool true := HPRE.out 9 (by kernel_rfl) (by omega)
      rw [if_pos (wanted_yes rfl rfl rfl e43)]
      go_simp
      exact HKK.out _ _ HI.out (RG.refl _ _ _) (by first | rfl | (simp; done))
    · cases hi
      have e43 : b.tmps.getD 43 undef = .bool true := HPRE.out 4 (by kernel_rfl) (by omega)
      have e49 : b.tmps.getD 49 undef = .bool true := HPRE.out 10 (by kernel_rfl) (by omega)
      rw [if_pos (wanted_yes rfl rfl rfl e43)]
      go_simp
      exact HKK.out _ _ HI.out (RG.refl _ _ _) (by first | rfl | (simp; done))
    · cases hi
      have e50 : b.tmps.getD 50 undef = .bool true := HPRE.out 11 (by kernel_rfl) (by omega)
      rw [if_neg (wanted_no rfl rfl rfl e50 (by decide))]
      exact HKK.out undef _ HI.out (RG.refl _ _ _) rfl
    · cases hi
      have e50 : b.tmps.getD 50 undef = .bool true := HPRE.out 11 (by kernel_rfl) (by omega)
      rw [if_neg (wanted_no rfl rfl rfl e50 (by decide))]
      exact HKK.out undef _ HI.out (RG.refl _ _ _) rfl
    · cases hi
      have e50 : b.tmps.getD 50 undef = .bool true := HPRE.out 11 (by kernel_rfl) (by omega)
      rw [if_neg (wanted_no rfl rfl rfl e50 (by decide))]
      exact HKK.out undef _ HI.out (RG.refl _ _ _) rfl
    · cases hi
      have e53 : b.tmps.getD 53 undef = undef := HPRE.out 14 (by kernel_rfl) (by omega)
      rw [if_neg (wanted_undef rfl rfl rfl e53)]
      exact HKK.out undef _ HI.out (RG.refl _ _ _) rfl
    · cases hi
      have e53 : b.tmps.getD 53 undef = undef := HPRE.out 14 (by kernel_rfl) (by omega)
      rw [if_neg (wanted_undef rfl rfl rfl e53)]
      exact HKK.out undef _ HI.out (RG.refl _ _ _) rfl
    · cases hi
      have e53 : b.tmps.getD 53 undef = undef := HPRE.out 14 (by kernel_rfl) (by omega)
      rw [if_neg (wanted_undef rfl rfl rfl e53)]
      exact HKK.out undef _ HI.out (RG.refl _ _ _) rfl
    · cases hi
      have e53 : b.tmps.getD 53 undef = undef := HPRE.out 14 (by kernel_rfl) (by omega)
      rw [if_neg (wanted_undef rfl rfl rfl e53)]
      exact HKK.out undef _ HI.out (RG.refl _ _ _) rfl
    · cases hi
      have e53 : b.tmps.getD 53 undef = undef := HPRE.out 14 (by kernel_rfl) (by omega)
      rw [if_neg (wanted_undef rfl rfl rfl e53)]
      exact HKK.out undef _ HI.out (RG.refl _ _ _) rfl
    · cases hi
      have e53 : b.tmps.getD 53 undef = undef := HPRE.out 14 (by kernel_rfl) (by omega)
      rw [if_neg (wanted_undef rfl rfl rfl e53)]
      exact HKK.out undef _ HI.out (RG.refl _ _ _) rfl
    · cases hi
      have e53 : b.tmps.getD 53 undef = undef := HPRE.out 14 (by kernel_rfl) (by omega)
      rw [if_neg (wanted_undef rfl rfl rfl e53)]
      exact HKK.out undef _ HI.out (RG.refl _ _ _) rfl
    · cases hi
      have e53 : b.tmps.getD 53 undef = undef := HPRE.out 14 (by kernel_rfl) (by omega)
      rw [if_neg (wanted_undef rfl rfl rfl e53)]
      exact HKK.out undef _ HI.out (RG.refl _ _ _) rfl
    · cases hi
      have e53 : b.tmps.getD 53 undef = undef := HPRE.out 14 (by kernel_rfl) (by omega)
      rw [if_neg (wanted_undef rfl rfl rfl e53)]
      exact HKK.out undef _ HI.out (RG.refl _ _ _) rfl
    · cases hi
      have e50 : b.tmps.getD 50 undef = .bool true := HPRE.out 11 (by kernel_rfl) (by omega)
      rw [if_neg (wanted_no rfl rfl rfl e50 (by decide))]
      exact HKK.out undef _ HI.out (RG.refl _ _ _) rfl
    · cases hi
      have e43 : b.tmps.getD 43 undef = .bool true := HPRE.out 4 (by kernel_rfl) (by omega)
      have e50 : b.tmps.getD 50 undef = .bool true := HPRE.out 11 (by kernel_rfl) (by omega)
      have e63 : b.tmps.getD 63 undef = undef := HPRE.out 24 (by kernel_rfl) (by omega)
      rw [if_pos (wanted_yes rfl rfl rfl e43)]
      go_simp
      exact HKK.out _ _ HI.out (RG.refl _ _ _) (by first | rfl | (simp; done))
    · cases hi
      have e43 : b.tmps.getD 43 undef = .bool true := HPRE.out 4 (by kernel_rfl) (by omega)
      have e64 : b.tmps.getD 64 undef = .bool true := HPRE.out 25 (by kernel_rfl) (by omega)
      rw [if_pos (by rfl)]
      go_simp
      exact HKK.out _ _ HI.out (RG.refl _ _ _) (by first | rfl | (simp; done))
    · cases hi
      have e6 : b.tmps.getD 6 undef = .pointer (some ⟨G, 0, none⟩) := HKEEP.out 6 (by kernel_rfl)
      have e39 : b.tmps.getD 39 undef = .agg #[.slice A1 l.length c1, .slice A2 ws.length c2, .slice A3 gs.length c3] := HPRE.out 0 (by kernel_rfl) (by omega)
      have e6 : b.tmps.getD 6 undef = .pointer (some ⟨G, 0, none⟩) := HKEEP.out 6 (by kernel_rfl)
      have e39 : b.tmps.getD 39 undef = .agg #[.slice A1 l.length c1, .slice A2 ws.length c2, .slice A3 gs.length c3] := HPRE.out 0 (by kernel_rfl) (by omega)
      have hf := fill_ig HI.out (.slice A1 l.length c1) (.slice A2 ws.length c2) (.slice A3 gs.length c3)
      rw [if_pos (by rfl)]
      exact wp_store_mid 41 (.tmp 6) (.tmp 39) rfl G 0 _ e6 e39 (ig_there HI.out) (by kernel_rfl) (by simp [Value.oneCell']) (HKK.out undef _ hf.1 ⟨hf.2.1, fun _ => hf.2.2⟩ hf.2.2)
  case fin =>
    intro b W' hinv hsz hdef hkeep hpost
    have e65 : b.tmps.getD 65 undef = .bool true := hpost 26 (by omega)
    have k6 : b.tmps.getD 6 undef = .pointer (some ⟨G, 0, none⟩) := hkeep 6 (by kernel_rfl)
    have hfin : W'.heap[G]? = some (.cells #[.slice A1 l.length c1, .slice A2 ws.length c2, .slice A3 gs.length c3] 41 (0, 0)) := hpost 27 (by omega)
    refine rj_lastv (by kernel_rfl) rfl (by kernel_rfl) rfl (by kernel_rfl) ?_
    have hsz7 : 7 < b.tmps.size := by rw [hsz]; exact of_decide_eq_true (by kernel_rfl)
    have g6 := (putd b 7 (.bool true) 6 hsz7).trans ((if_neg (by decide)).trans k6)
    have g7 := (putd b 7 (.bool true) 7 hsz7).trans (if_pos rfl)
    go_simp
    go_wp2_with fail
    refine bodyPost_ret ((results_cell_row_tmp rfl _ _ G 41 _ (0, 0) _ g6 hfin Try.underlying41 rfl (by kernel_rfl)).trans (congrArg (fun z => Result.ok (Value.tuple #[_, z]) W') g7)) rfl ?_
    rw [HP.out]
    exact rstep_fin (G := G) R3.out V3.out HU.out HN.out O3.out HGE.out.2.2.1 HLT.out hinv.1
def post1y (G B D : Nat) (A1 A2 A3 : Option Addr) (c1 c2 c3 : Nat) (l : List Int) (ws : List Bool) (gs : List Int) (a r : Int) (mk : Nat) (i : Nat) (v : Value) (w : World) : Prop :=
  match i with
  | 0 => v = .agg #[.slice A1 l.length c1, .slice A2 ws.length c2, .slice A3 gs.length c3]
  | 1 => v = .int .i64 0
  | 2 => v = .int .i64 0
  | 3 => v = .bool true
  | 4 => v = .bool true
  | 5 => v = .int .i64 0
  | 6 => v = .bool false
  | 7 => v = .bool false
  | 8 => v = undef
  | 9 => v = undef
  | 10 => v = .bool false
  | 11 => v = .bool false
  | 12 => v = .int .i64 0
  | 13 => v = .bool true
  | 14 => v = .bool true
  | 15 => v = .int .u32 r
  | 16 => v = .pointer (some ⟨B, 0, none⟩)
  | 17 => v = .slice A1 l.length c1
  | 18 => v = .pointer (some ⟨D, 1, none⟩)
  | 19 => v = .int .u32 a
  | 20 => v = .pointer (some ⟨D, 2, none⟩)
  | 21 => v = .int .i64 (mk : Int)
  | 22 => v = .int .u32 r
  | 23 => v = .bool true
  | 24 => v = .bool true
  | 25 => v = .bool true
  | 26 => v = .bool true
  | 27 => FullG G #[.slice A1 l.length c1, .slice A2 ws.length c2, .slice A3 gs.length c3] w
  | _ => True
theorem post1y_rg {G B D : Nat} {A1 A2 A3 : Option Addr} {c1 c2 c3 : Nat} {l : List Int} {ws : List Bool} {gs : List Int} {a r : Int} {mk : Nat} (j : Nat) (v : Value) (w w' : World) (h : post1y G B D A1 A2 A3 c1 c2 c3 l ws gs a r mk j v w) (k : RG G (FullG G #[.slice A1 l.length c1, .slice A2 ws.length c2, .slice A3 gs.length c3]) w w') : post1y G B D A1 A2 A3 c1 c2 c3 l ws gs a r mk j v w' := by
  unfold post1y at h ⊢
  split at h
  all_goals first | exact h | exact k.2 h

set_option maxRecDepth 100000 in
set_option maxHeartbeats 4000000 in
theorem rstep1_yes (w : World) {R BB BW BG n k : Nat} {l : List Int} {ws : List Bool} {gs : List Int} {v : Value} (kd a x : Int) (ps : Option Addr) (ns cs : Nat) (H : RSame w R BB BW BG n k l ws gs v) (a0 : 0 ≤ a) (a1 : a < 4294967296) (x0 : 0 ≤ x) (x1 : x < 4294967296) (j mk : Nat) (r : Int) (he : rasked n a mk = 0) (a0' : 2147483648 ≤ a) (hj : a - 2147483648 = (j : Int)) (hjk : j + mk ≤ n) (mk0 : 0 < mk) (hnum : word_Number.f 60 ((l.drop j).take mk) = some (r, 0)) (hld : mimesisref10_Load.f 60 l a (mk : Int) = some r) :
    Calls Try.prog 21 #[.pointer (some ⟨R, 0, none⟩), v, .agg #[.int .i64 1, .int .u32 a, .int .i64 (mk : Int), .int .u32 x, .slice ps ns cs]] w (RStepEnd w R BB BW BG n k) := by
  obtain ⟨P, hP⟩ : ∃ P, P = RStepEnd w R BB BW BG n k := ⟨_, rfl⟩
  rw [← hP]
  have HP := Aside0.mk hP
  clear hP
  obtain ⟨hr, hv, hu, hn⟩ := H
  have HN := Aside0.mk hn
  have hn1 := hn.2.1
  have hlen := hr.nl
  obtain ⟨A1, c1, A2, c2, A3, c3, rfl, v1, v2, v3⟩ := hv
  have HV0 : VRam w (XR BB BW BG) (.agg #[.slice A1 l.length c1, .slice A2 ws.length c2, .slice A3 gs.length c3]) l ws gs := ⟨A1, c1, A2, c2, A3, c3, rfl, v1, v2, v3⟩
  have HBX := Aside0.mk (rbox_new w (.slice A1 l.length c1) (.slice A2 ws.length c2) (.slice A3 gs.length c3) (.int .i64 1) (.int .u32 a) (.int .i64 (mk : Int)) (.int .u32 x) (.slice ps ns cs))
  obtain ⟨B, h0⟩ : ∃ B, w.heap.size = B := ⟨_, rfl⟩
  obtain ⟨D, h1⟩ : ∃ D, w.heap.size + 1 = D := ⟨_, rfl⟩
  obtain ⟨G, h2⟩ : ∃ G, w.heap.size + 1 + 1 = G := ⟨_, rfl⟩
  have HLT := Aside0.mk hr.lt
  have HR := Aside0.mk hr
  have HU := Aside0.mk hu
  have HV1 := Aside0.mk (HV0.wide (Y := XRG BB BW BG G) (fun k hk => hk.imp id (fun e => by omega)))
  have HS := Aside0.mk (And.intro h0 (And.intro h1 h2))
  have HLN := Aside0.mk hlen
  have HE := Aside0.mk he
  have HNUM := Aside0.mk hnum
  have HLD := Aside0.mk hld
  clear he hnum hld
  clear hn hr HV0 hu h0 h1 h2 v1 v2 v3 hlen
  go_enter Try.func21, Try.ntmps21
  go_upto_region 1 with fail
  generalize hW : World.alloc (World.alloc (World.alloc w _) _) _ = w1
  obtain ⟨t1', b1⟩ := HBX.out w1 hW.symm
  rw [HS.out.2.2, HS.out.2.1, HS.out.1] at t1'
  have T1 := Aside0.mk t1'
  have R1 := Aside0.mk (HR.out.below b1)
  have O1 := Aside0.mk (OnlyP.of_below (P := XR BB BW BG) b1)
  have V1 := Aside0.mk (HV1.out.below b1)
  rw [HS.out.2.2, HS.out.2.1, HS.out.1]
  have HGE : Aside0 (w.heap.size ≤ B ∧ w.heap.size ≤ D ∧ w.heap.size ≤ G ∧ B ≠ G ∧ D ≠ G ∧ B ≠ D) := ⟨by have := HS.out; omega⟩
  have HXB : Aside0 (¬ XR BB BW BG B ∧ ¬ XR BB BW BG D ∧ ¬ XR BB BW BG G) := ⟨by
    have h1 := HS.out; have h2 := HLT.out
    refine ⟨?_, ?_, ?_⟩ <;> (rintro (h | h | h) <;> omega)⟩
  clear hW HBX HR HV1 b1 t1'
  obtain ⟨q0, q1, q2⟩ := T1.out.cb
  obtain ⟨s0, s1, s2, s3, s4⟩ := T1.out.cs
  obtain ⟨⟨r0, r1, r2⟩, zr⟩ := T1.out.cr
  go_wp2_with fail
  refine (load_yes (K := 60) _ a j mk r 0 R1.out hn1 a0' a1 HE.out hj hjk mk0 HNUM.out).mono ?_
  rintro e w2 ⟨rfl, d⟩
  have T2 := Aside0.mk (T1.out.below d.below)
  have R2 := Aside0.mk (R1.out.drawn d)
  have O2 := Aside0.mk (O1.out.drawn d)
  have V2 := Aside0.mk (V1.out.below d.below)
  clear d T1 R1 O1 V1
  clear q0 q1 q2 s0 s1 s2 s3 s4 r0 r1 r2 zr
  obtain ⟨q0, q1, q2⟩ := T2.out.cb
  obtain ⟨s0, s1, s2, s3, s4⟩ := T2.out.cs
  obtain ⟨⟨r0, r1, r2⟩, zr⟩ := T2.out.cr
  go_wp2_with fail
  refine (mimesisref10_Asked.calls A1 c1 l a (mk : Int) 0 _ (vram_rows V2.out).1.C (vram_rows V2.out).1.le (by rw [asked_f l a (mk : Int) (by have := HLN.out; omega) a0 a1, HLN.out, HE.out])).mono ?_
  rintro e w3 ⟨rfl, d⟩
  have T3 := Aside0.mk (T2.out.below d.below)
  have R3 := Aside0.mk (R2.out.drawn d)
  have O3 := Aside0.mk (O2.out.drawn d)
  have V3 := Aside0.mk (V2.out.below d.below)
  clear d T2 R2 O2 V2
  clear q0 q1 q2 s0 s1 s2 s3 s4 r0 r1 r2 zr
  obtain ⟨q0, q1, q2⟩ := T3.out.cb
  obtain ⟨s0, s1, s2, s3, s4⟩ := T3.out.cs
  obtain ⟨⟨r0, r1, r2⟩, zr⟩ := T3.out.cr
  go_wp2_with fail
  have HT := Aside0.mk T3.out
  have HI0 : Aside0 (IG G w3 w3.drew) := ⟨(Only.refl G w3).drew, _, HT.out.r, rfl⟩
  refine wp_region_rj (by kernel_rfl) 28 (fun W' => IG G w3 W') (fun x y => RG G (FullG G #[.slice A1 l.length c1, .slice A2 ws.length c2, .slice A3 gs.length c3]) x y) (post1y G B D A1 A2 A3 c1 c2 c3 l ws gs a r mk) (by kernel_rfl) post1y_rg HI0.out ?step ?fin
  case step =>
    clear q0 q1 q2 s0 s1 s2 s3 s4 r0 r1 r2 zr
    intro i o hi him b W' hinv hkeep hdef hpre K hK
    have HI := Aside0.mk hinv
    have HPRE := Aside0.mk hpre
    have HKEEP := Aside0.mk hkeep
    have HKK := Aside0.mk hK
    clear hinv hpre hkeep hK hdef
    obtain rfl | rfl | rfl | rfl | rfl | rfl | rfl | rfl | rfl | rfl | rfl | rfl | rfl | rfl | rfl | rfl | rfl | rfl | rfl | rfl | rfl | rfl | rfl | rfl | rfl | rfl | rfl | rfl : i = 0 ∨ i = 1 ∨ i = 2 ∨ i = 3 ∨ i = 4 ∨ i = 5 ∨ i = 6 ∨ i = 7 ∨ i = 8 ∨ i = 9 ∨ i = 10 ∨ i = 11 ∨ i = 12 ∨ i = 13 ∨ i = 14 ∨ i = 15 ∨ i = 16 ∨ i = 17 ∨ i = 18 ∨ i = 19 ∨ i = 20 ∨ i = 21 ∨ i = 22 ∨ i = 23 ∨ i = 24 ∨ i = 25 ∨ i = 26 ∨ i = 27 := by omega
    · cases hi
      have e4 : b.tmps.getD 4 undef = .pointer (some ⟨B, 0, none⟩) := HKEEP.out 4 (by kernel_rfl)
      have c0 : W'.cell? ⟨B, 0, none⟩ = some (.slice A1 l.length c1) := (blk_cell (blk_only HT.out.b HI.out.1 HGE.out.2.2.2.1) 0).trans rfl
      have c1' : W'.cell? ⟨B, 1, none⟩ = some (.slice A2 ws.length c2) := (blk_cell (blk_only HT.out.b HI.out.1 HGE.out.2.2.2.1) 1).trans rfl
      have c2' : W'.cell? ⟨B, 2, none⟩ = some (.slice A3 gs.length c3) := (blk_cell (blk_only HT.out.b HI.out.1 HGE.out.2.2.2.1) 2).trans rfl
      rw [if_pos (by rfl)]
      go_simp
      exact HKK.out _ _ HI.out (RG.refl _ _ _) (by first | rfl | (simp; done))
    · cases hi
      have e9 : b.tmps.getD 9 undef = .int .i64 0 := HKEEP.out 9 (by kernel_rfl)
      rw [if_pos (by rfl)]
      go_simp
      exact HKK.out _ _ HI.out (RG.refl _ _ _) (by first | rfl | (simp; done))
    · cases hi
      have e10 : b.tmps.getD 10 undef = .int .i64 0 := HKEEP.out 10 (by kernel_rfl)
      rw [if_pos (by rfl)]
      go_simp
      exact HKK.out _ _ HI.out (RG.refl _ _ _) (by first | rfl | (simp; done))
    · cases hi
      have e40 : b.tmps.getD 40 undef = .int .i64 0 := HPRE.out 1 (by kernel_rfl) (by omega)
      have e41 : b.tmps.getD 41 undef = .int .i64 0 := HPRE.out 2 (by kernel_rfl) (by omega)
      rw [if_pos (by rfl)]
      go_simp
      exact HKK.out _ _ HI.out (RG.refl _ _ _) (by first | rfl | (simp; done))
    · cases hi
      have e42 : b.tmps.getD 42 undef = .bool true := HPRE.out 3 (by kernel_rfl) (by omega)
      rw [if_pos (by rfl)]
      go_simp
      exact HKK.out _ _ HI.out (RG.refl _ _ _) (by first | rfl | (simp; done))
    · cases hi
      have e43 : b.tmps.getD 43 undef = .bool true := HPRE.out 4 (by kernel_rfl) (by omega)
      have e10 : b.tmps.getD 10 undef = .int .i64 0 := HKEEP.out 10 (by kernel_rfl)
      rw [if_pos (wanted_yes rfl rfl rfl e43)]
      go_simp
      exact HKK.out _ _ HI.out (RG.refl _ _ _) (by first | rfl | (simp; done))
    · cases hi
      have e43 : b.tmps.getD 43 undef = .bool true := HPRE.out 4 (by kernel_rfl) (by omega)
      have e44 : b.tmps.getD 44 undef = .int .i64 0 := HPRE.out 5 (by kernel_rfl) (by omega)
      rw [if_pos (wanted_yes rfl rfl rfl e43)]
      go_simp
      exact HKK.out _ _ HI.out (RG.refl _ _ _) (by first | rfl | (simp; done))
    · cases hi
      have e43 : b.tmps.getD 43 undef = .bool true := HPRE.out 4 (by kernel_rfl) (by omega)
      have e45 : b.tmps.getD 45 undef = .bool false := HPRE.out 6 (by kernel_rfl) (by omega)
      rw [if_pos (wanted_yes rfl rfl rfl e43)]
      go_simp
      exact HKK.out _ _ HI.out (RG.refl _ _ _) (by first | rfl | (simp; done))
    · cases hi
      have e46 : b.tmps.getD 46 undef = .bool false := HPRE.out 7 (by kernel_rfl) (by omega)
      rw [if_neg (wanted_no rfl rfl rfl e46 (by decide))]
      exact HKK.out undef _ HI.out (RG.refl _ _ _) rfl
    · cases hi
      have e46 : b.tmps.getD 46 undef = .bool false := HPRE.out 7 (by kernel_rfl) (by omega)
      rw [if_neg (wanted_no rfl rfl rfl e46 (by decide))]
      exact HKK.out undef _ HI.out (RG.refl _ _ _) rfl
    · cases hi
      have e43 : b.tmps.getD 43 undef = .bool true := HPRE.out 4 (by kernel_rfl) (by omega)
      have e46 : b.tmps.getD 46 undef = .bool false := HPRE.out 7 (by kernel_rfl) (by omega)
      have e48 : b.tmps.getD 48 undef = undef := HPRE.out 9 (by kernel_rfl) (by omega)
      rw [if_pos (wanted_yes rfl rfl rfl e43)]
      go_simp
      exact HKK.out _ _ HI.out (RG.refl _ _ _) (by first | rfl | (simp; done))
    · cases hi
      have e43 : b.tmps.getD 43 undef = .bool true := HPRE.out 4 (by kernel_rfl) (by omega)
      have e49 : b.tmps.getD 49 undef = .bool false := HPRE.out 10 (by kernel_rfl) (by omega)
      rw [if_pos (wanted_yes rfl rfl rfl e43)]
      go_simp
      exact HKK.out _ _ HI.out (RG.refl _ _ _) (by first | rfl | (simp; done))
    · cases hi
      have e50 : b.tmps.getD 50 undef = .bool false := HPRE.out 11 (by kernel_rfl) (by omega)
      have e10 : b.tmps.getD 10 undef = .int .i64 0 := HKEEP.out 10 (by kernel_rfl)
      rw [if_pos (wanted_yes rfl rfl rfl e50)]
      go_simp
      exact HKK.out _ _ HI.out (RG.refl _ _ _) (by first | rfl | (simp; done))
    · cases hi
      have e50 : b.tmps.getD 50 undef = .bool false := HPRE.out 11 (by kernel_rfl) (by omega)
      have e51 : b.tmps.getD 51 undef = .int .i64 0 := HPRE.out 12 (by kernel_rfl) (by omega)
      rw [if_pos (wanted_yes rfl rfl rfl e50)]
      go_simp
      exact HKK.out _ _ HI.out (RG.refl _ _ _) (by first | rfl | (simp; done))
    · cases hi
      have e50 : b.tmps.getD 50 undef = .bool false := HPRE.out 11 (by kernel_rfl) (by omega)
      have e52 : b.tmps.getD 52 undef = .bool true := HPRE.out 13 (by kernel_rfl) (by omega)
      rw [if_pos (wanted_yes rfl rfl rfl e50)]
      go_simp
      exact HKK.out _ _ HI.out (RG.refl _ _ _) (by first | rfl | (simp; done))
    · cases hi
      have e53 : b.tmps.getD 53 undef = .bool true := HPRE.out 14 (by kernel_rfl) (by omega)
      have e8 : b.tmps.getD 8 undef = .int .u32 r := HKEEP.out 8 (by kernel_rfl)
      rw [if_pos (wanted_yes rfl rfl rfl e53)]
      go_simp
      exact HKK.out _ _ HI.out (RG.refl _ _ _) (by first | rfl | (simp; done))
    · cases hi
      have e53 : b.tmps.getD 53 undef = .bool true := HPRE.out 14 (by kernel_rfl) (by omega)
      have e4 : b.tmps.getD 4 undef = .pointer (some ⟨B, 0, none⟩) := HKEEP.out 4 (by kernel_rfl)
      rw [if_pos (wanted_yes rfl rfl rfl e53)]
      go_simp
      exact HKK.out _ _ HI.out (RG.refl _ _ _) (by first | rfl | (simp; done))
    · cases hi
      have e53 : b.tmps.getD 53 undef = .bool true := HPRE.out 14 (by kernel_rfl) (by omega)
      have e55 : b.tmps.getD 55 undef = .pointer (some ⟨B, 0, none⟩) := HPRE.out 16 (by kernel_rfl) (by omega)
      have c0 : W'.cell? ⟨B, 0, none⟩ = some (.slice A1 l.length c1) := (blk_cell (blk_only HT.out.b HI.out.1 HGE.out.2.2.2.1) 0).trans rfl
      rw [if_pos (wanted_yes rfl rfl rfl e53)]
      go_simp
      exact HKK.out _ _ HI.out (RG.refl _ _ _) (by first | rfl | (simp; done))
    · cases hi
      have e53 : b.tmps.getD 53 undef = .bool true := HPRE.out 14 (by kernel_rfl) (by omega)
      have e5 : b.tmps.getD 5 undef = .pointer (some ⟨D, 0, none⟩) := HKEEP.out 5 (by kernel_rfl)
      rw [if_pos (wanted_yes rfl rfl rfl e53)]
      go_simp
      exact HKK.out _ _ HI.out (RG.refl _ _ _) (by first | rfl | (simp; done))
    · cases hi
      have e53 : b.tmps.getD 53 undef = .bool true := HPRE.out 14 (by kernel_rfl) (by omega)
      have e57 : b.tmps.getD 57 undef = .pointer (some ⟨D, 1, none⟩) := HPRE.out 18 (by kernel_rfl) (by omega)
      have c0 : W'.cell? ⟨D, 1, none⟩ = some (.int .u32 a) := (blk_cell (blk_only HT.out.s HI.out.1 HGE.out.2.2.2.2.1) 1).trans rfl
      rw [if_pos (wanted_yes rfl rfl rfl e53)]
      go_simp
      exact HKK.out _ _ HI.out (RG.refl _ _ _) (by first | rfl | (simp; done))
    · cases hi
      have e53 : b.tmps.getD 53 undef = .bool true := HPRE.out 14 (by kernel_rfl) (by omega)
      have e5 : b.tmps.getD 5 undef = .pointer (some ⟨D, 0, none⟩) := HKEEP.out 5 (by kernel_rfl)
      rw [if_pos (wanted_yes rfl rfl rfl e53)]
      go_simp
      exact HKK.out _ _ HI.out (RG.refl _ _ _) (by first | rfl | (simp; done))
    · cases hi
      have e53 : b.tmps.getD 53 undef = .bool true := HPRE.out 14 (by kernel_rfl) (by omega)
      have e59 : b.tmps.getD 59 undef = .pointer (some ⟨D, 2, none⟩) := HPRE.out 20 (by kernel_rfl) (by omega)
      have c0 : W'.cell? ⟨D, 2, none⟩ = some (.int .i64 (mk : Int)) := (blk_cell (blk_only HT.out.s HI.out.1 HGE.out.2.2.2.2.1) 2).trans rfl
      rw [if_pos (wanted_yes rfl rfl rfl e53)]
      go_simp
      exact HKK.out _ _ HI.out (RG.refl _ _ _) (by first | rfl | (simp; done))
    · cases hi
      have e53 : b.tmps.getD 53 undef = .bool true := HPRE.out 14 (by kernel_rfl) (by omega)
      have e56 : b.tmps.getD 56 undef = .slice A1 l.length c1 := HPRE.out 17 (by kernel_rfl) (by omega)
      have e58 : b.tmps.getD 58 undef = .int .u32 a := HPRE.out 19 (by kernel_rfl) (by omega)
      have e60 : b.tmps.getD 60 undef = .int .i64 (mk : Int) := HPRE.out 21 (by kernel_rfl) (by omega)
      rw [if_pos (wanted_yes rfl rfl rfl e53)]
      go_simp
      have VL := ((vram_rows V3.out).1.onlyP (.of_only HI.out.1 (.inr rfl)))
      refine (mimesisref10_Load.calls 60 A1 c1 l a mk r _ VL.C VL.le HLD.out).mono ?_
      rintro e W2 ⟨rfl, d⟩
      exact HKK.out _ _ (HI.out.below d.below) (.of_below FullG.below d.below) rfl
    · cases hi
      have e53 : b.tmps.getD 53 undef = .bool true := HPRE.out 14 (by kernel_rfl) (by omega)
      have e61 : b.tmps.getD 61 undef = .int .u32 r := HPRE.out 22 (by kernel_rfl) (by omega)
      have e54 : b.tmps.getD 54 undef = .int .u32 r := HPRE.out 15 (by kernel_rfl) (by omega)
      rw [if_pos (wanted_yes rfl rfl rfl e53)]
      go_simp
      exact HKK.out _ _ HI.out (RG.refl _ _ _) (by first | rfl | (simp; done))
    · cases hi
      have e50 : b.tmps.getD 50 undef = .bool false := HPRE.out 11 (by kernel_rfl) (by omega)
      have e53 : b.tmps.getD 53 undef = .bool true := HPRE.out 14 (by kernel_rfl) (by omega)
      have e62 : b.tmps.getD 62 undef = .bool true := HPRE.out 23 (by kernel_rfl) (by omega)
      rw [if_pos (wanted_yes rfl rfl rfl e50)]
      go_simp
      exact HKK.out _ _ HI.out (RG.refl _ _ _) (by first | rfl | (simp; done))
    · cases hi
      have e43 : b.tmps.getD 43 undef = .bool true := HPRE.out 4 (by kernel_rfl) (by omega)
      have e50 : b.tmps.getD 50 undef = .bool false := HPRE.out 11 (by kernel_rfl) (by omega)
      have e63 : b.tmps.getD 63 undef = .bool true := HPRE.out 24 (by kernel_rfl) (by omega)
      rw [if_pos (wanted_yes rfl rfl rfl e43)]
      go_simp
      exact HKK.out _ _ HI.out (RG.refl _ _ _) (by first | rfl | (simp; done))
    · cases hi
      have e43 : b.tmps.getD 43 undef = .bool true := HPRE.out 4 (by kernel_rfl) (by omega)
      have e64 : b.tmps.getD 64 undef = .bool true := HPRE.out 25 (by kernel_rfl) (by omega)
      rw [if_pos (by rfl)]
      go_simp
      exact HKK.out _ _ HI.out (RG.refl _ _ _) (by first | rfl | (simp; done))
    · cases hi
      have e6 : b.tmps.getD 6 undef = .pointer (some ⟨G, 0, none⟩) := HKEEP.out 6 (by kernel_rfl)
      have e39 : b.tmps.getD 39 undef = .agg #[.slice A1 l.length c1, .slice A2 ws.length c2, .slice A3 gs.length c3] := HPRE.out 0 (by kernel_rfl) (by omega)
      have e6 : b.tmps.getD 6 undef = .pointer (some ⟨G, 0, none⟩) := HKEEP.out 6 (by kernel_rfl)
      have e39 : b.tmps.getD 39 undef = .agg #[.slice A1 l.length c1, .slice A2 ws.length c2, .slice A3 gs.length c3] := HPRE.out 0 (by kernel_rfl) (by omega)
      have hf := fill_ig HI.out (.slice A1 l.length c1) (.slice A2 ws.length c2) (.slice A3 gs.length c3)
      rw [if_pos (by rfl)]
      exact wp_store_mid 41 (.tmp 6) (.tmp 39) rfl G 0 _ e6 e39 (ig_there HI.out) (by kernel_rfl) (by simp [Value.oneCell']) (HKK.out undef _ hf.1 ⟨hf.2.1, fun _ => hf.2.2⟩ hf.2.2)
  case fin =>
    intro b W' hinv hsz hdef hkeep hpost
    have e65 : b.tmps.getD 65 undef = .bool true := hpost 26 (by omega)
    have k6 : b.tmps.getD 6 undef = .pointer (some ⟨G, 0, none⟩) := hkeep 6 (by kernel_rfl)
    have hfin : W'.heap[G]? = some (.cells #[.slice A1 l.length c1, .slice A2 ws.length c2, .slice A3 gs.length c3] 41 (0, 0)) := hpost 27 (by omega)
    refine rj_lastv (by kernel_rfl) rfl (by kernel_rfl) rfl (by kernel_rfl) ?_
    have hsz7 : 7 < b.tmps.size := by rw [hsz]; exact of_decide_eq_true (by kernel_rfl)
    have g6 := (putd b 7 (.bool true) 6 hsz7).trans ((if_neg (by decide)).trans k6)
    have g7 := (putd b 7 (.bool true) 7 hsz7).trans (if_pos rfl)
    go_simp
    go_wp2_with fail
    refine bodyPost_ret ((results_cell_row_tmp rfl _ _ G 41 _ (0, 0) _ g6 hfin Try.underlying41 rfl (by kernel_rfl)).trans (congrArg (fun z => Result.ok (Value.tuple #[_, z]) W') g7)) rfl ?_
    rw [HP.out]
    exact rstep_fin (G := G) R3.out V3.out HU.out HN.out O3.out HGE.out.2.2.1 HLT.out hinv.1

set_option maxRecDepth 100000 in
set_option maxHeartbeats 4000000 in
theorem rstep2_no (w : World) {R BB BW BG n k : Nat} {l : List Int} {ws : List Bool} {gs : List Int} {v : Value} (kd a m x : Int) (ps : Option Addr) (ns cs : Nat) (H : RSame w R BB BW BG n k l ws gs v) (a0 : 0 ≤ a) (a1 : a < 4294967296) (x0 : 0 ≤ x) (x1 : x < 4294967296) (e0 : Int) (he : rasked n a m = e0) (hz : (e0 != 0) = true) (hz0 : (e0 == 0) = false) :
    Calls Try.prog 21 #[.pointer (some ⟨R, 0, none⟩), v, .agg #[.int .i64 2, .int .u32 a, .int .i64 m, .int .u32 x, .slice ps ns cs]] w (RStepEnd w R BB BW BG n k) := by
  obtain ⟨P, hP⟩ : ∃ P, P = RStepEnd w R BB BW BG n k := ⟨_, rfl⟩
  rw [← hP]
  have HP := Aside0.mk hP
  clear hP
  obtain ⟨hr, hv, hu, hn⟩ := H
  have HN := Aside0.mk hn
  have hn1 := hn.2.1
  have hlen := hr.nl
  obtain ⟨A1, c1, A2, c2, A3, c3, rfl, v1, v2, v3⟩ := hv
  have HV0 : VRam w (XR BB BW BG) (.agg #[.slice A1 l.length c1, .slice A2 ws.length c2, .slice A3 gs.length c3]) l ws gs := ⟨A1, c1, A2, c2, A3, c3, rfl, v1, v2, v3⟩
  have HBX := Aside0.mk (rbox_new w (.slice A1 l.length c1) (.slice A2 ws.length c2) (.slice A3 gs.length c3) (.int .i64 2) (.int .u32 a) (.int .i64 m) (.int .u32 x) (.slice ps ns cs))
  obtain ⟨B, h0⟩ : ∃ B, w.heap.size = B := ⟨_, rfl⟩
  obtain ⟨D, h1⟩ : ∃ D, w.heap.size + 1 = D := ⟨_, rfl⟩
  obtain ⟨G, h2⟩ : ∃ G, w.heap.size + 1 + 1 = G := ⟨_, rfl⟩
  have HLT := Aside0.mk hr.lt
  have HR := Aside0.mk hr
  have HU := Aside0.mk hu
  have HV1 := Aside0.mk (HV0.wide (Y := XRG BB BW BG G) (fun k hk => hk.imp id (fun e => by omega)))
  have HS := Aside0.mk (And.intro h0 (And.intro h1 h2))
  have HLN := Aside0.mk hlen
  have HE := Aside0.mk he
  clear he
  clear hn hr HV0 hu h0 h1 h2 v1 v2 v3 hlen
  go_enter Try.func21, Try.ntmps21
  go_upto_region 1 with fail
  generalize hW : World.alloc (World.alloc (World.alloc w _) _) _ = w1
  obtain ⟨t1', b1⟩ := HBX.out w1 hW.symm
  rw [HS.out.2.2, HS.out.2.1, HS.out.1] at t1'
  have T1 := Aside0.mk t1'
  have R1 := Aside0.mk (HR.out.below b1)
  have O1 := Aside0.mk (OnlyP.of_below (P := XR BB BW BG) b1)
  have V1 := Aside0.mk (HV1.out.below b1)
  rw [HS.out.2.2, HS.out.2.1, HS.out.1]
  have HGE : Aside0 (w.heap.size ≤ B ∧ w.heap.size ≤ D ∧ w.heap.size ≤ G ∧ B ≠ G ∧ D ≠ G ∧ B ≠ D) := ⟨by have := HS.out; omega⟩
  have HXB : Aside0 (¬ XR BB BW BG B ∧ ¬ XR BB BW BG D ∧ ¬ XR BB BW BG G) := ⟨by
    have h1 := HS.out; have h2 := HLT.out
    refine ⟨?_, ?_, ?_⟩ <;> (rintro (h | h | h) <;> omega)⟩
  clear hW HBX HR HV1 b1 t1'
  obtain ⟨q0, q1, q2⟩ := T1.out.cb
  obtain ⟨s0, s1, s2, s3, s4⟩ := T1.out.cs
  obtain ⟨⟨r0, r1, r2⟩, zr⟩ := T1.out.cr
  go_wp2_with fail
  refine (store_no _ a m x e0 R1.out hn1 a0 a1 HE.out hz).mono ?_
  rintro e w2 ⟨rfl, d⟩
  have T2 := Aside0.mk (T1.out.below d.below)
  have R2 := Aside0.mk (R1.out.drawn d)
  have O2 := Aside0.mk (O1.out.drawn d)
  have V2 := Aside0.mk (V1.out.below d.below)
  clear d T1 R1 O1 V1
  clear q0 q1 q2 s0 s1 s2 s3 s4 r0 r1 r2 zr
  obtain ⟨q0, q1, q2⟩ := T2.out.cb
  obtain ⟨s0, s1, s2, s3, s4⟩ := T2.out.cs
  obtain ⟨⟨r0, r1, r2⟩, zr⟩ := T2.out.cr
  go_wp2_with fail
  refine (mimesisref10_Asked.calls A1 c1 l a m e0 _ (vram_rows V2.out).1.C (vram_rows V2.out).1.le (by rw [asked_f l a m (by have := HLN.out; omega) a0 a1, HLN.out, HE.out])).mono ?_
  rintro e w3 ⟨rfl, d⟩
  have T3 := Aside0.mk (T2.out.below d.below)
  have R3 := Aside0.mk (R2.out.drawn d)
  have O3 := Aside0.mk (O2.out.drawn d)
  have V3 := Aside0.mk (V2.out.below d.below)
  clear d T2 R2 O2 V2
  clear q0 q1 q2 s0 s1 s2 s3 s4 r0 r1 r2 zr
  obtain ⟨q0, q1, q2⟩ := T3.out.cb
  obtain ⟨s0, s1, s2, s3, s4⟩ := T3.out.cs
  obtain ⟨⟨r0, r1, r2⟩, zr⟩ := T3.out.cr
  go_wp2_with fail
  refine bodyPost_ret (results_cell_row_tmp rfl _ _ G 41 _ (0, 0) _ rfl (set3 T3.out.r _ _ _).1 Try.underlying41 rfl (by kernel_rfl)) rfl ?_
  rw [HP.out]
  exact rstep_fin (G := G) R3.out V3.out HU.out HN.out O3.out HGE.out.2.2.1 HLT.out (set3 T3.out.r _ _ _).2
end Go.Proofs.Ytdalboofhckobaa
