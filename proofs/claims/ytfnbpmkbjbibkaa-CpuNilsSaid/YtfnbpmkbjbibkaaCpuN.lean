/- The machine: made; a register set; an instruction retired; a nil machine's state. (PK=PCpuNils) -/
import Derived.Test.YtfnbpmkbjbibkaaCpuA
namespace Go.Proofs.Ytfnbpmkbjbibkaa
open Go Go.RowKit Go.Deep Go.Great Go.Proofs.YtfnbpmkbjbibkaaW.PrintWords Go.Proofs.Ytfnbpmkbjbibkaa.PCpuNils
set_option linter.unusedVariables false
set_option linter.unusedSimpArgs false

set_option maxRecDepth 100000 in
set_option maxHeartbeats 2000000 in
theorem cstate_nil (w : World) : Calls Try.prog 10 #[.pointer none] w fun e w' => e = .returned (.agg zS) ∧ Below w.heap.size w w' := by
  go_enter Try.func10, Try.ntmps10
  go_wp2_with (first
    | (refine wpList_alloc_z rfl 43 rfl zS zS_zero ?_; intro w1 hb1 hB1; have HB1 := Aside0.mk hb1; have BB1 := Aside0.mk hB1; clear hb1 hB1)
    | (refine wpList_buildTo rfl 43 #[] rfl (some 7) rfl zS zS_built ?_)
    | (refine wpList_store_arr rfl 43 (.tmp 2) (.tmp 7) rfl w.heap.size rfl zS rfl zS 43 HB1.out rfl (by rw [zS_size]; exact st_size) zS_one ?_; intro w2 hf ho; have HF2 := Aside0.mk hf; have HO2 := Aside0.mk ho; clear hf ho))
  refine bodyPost_ret (results_cell_row rfl _ _ w.heap.size 43 zS (0, 0) _ rfl HF2.out Try.underlying43 rfl (by rw [zS_size]; exact st_size)) rfl ⟨rfl, ?_⟩
  exact HO2.out.below (Nat.le_refl _) BB1.out

def fN : List Value := .int .u32 6144 :: (List.replicate 6 (.int .u32 0) ++ List.replicate 2 (.int .u64 0))
theorem fN_one : ∀ v ∈ fN, v.oneCell' = true := by
  intro v hv
  rcases List.mem_cons.1 hv with rfl | hv
  · rfl
  · rcases List.mem_append.1 hv with hv | hv <;> (obtain rfl := List.eq_of_mem_replicate hv; rfl)
theorem m_built (B : Nat) : Try.prog.built 91 [(0, .int .u32 2147483648), (2, .agg #[.int .u32 6144, .int .u32 0, .int .u32 0, .int .u32 0, .int .u32 0, .int .u32 0, .int .u32 0, .int .u64 0, .int .u64 0]), (5, .pointer (some ⟨B, 0, none⟩))] = some (cH 2147483648 rZ fN 0 0 [.pointer (some ⟨B, 0, none⟩), nl]).toArray := by kernel_rfl

/-- A machine that was made since W. -/
structure MC (W w : World) (p : Nat) (pc : Int) (rg fl : List Value) (tk rt : Int) (ev : Value) (B R C T BB BW BG n k : Nat) (X : Nat → Prop) (l : List Int) (ws : List Bool) (gs : List Int) (al : List (Int × Int)) (came : Nat) (q : List Int) (over : Bool) (out : List Int) (o m : Int) (s off : Bool) (code : Int) : Prop where
  im : IsM w p pc rg fl tk rt B ev
  ib : MB W w B R C T BB BW BG n k X l ws gs al came q over out o m s off code
  ap : W.heap.size ≤ p
  d : ¬ X p ∧ p ≠ B ∧ p ≠ R ∧ p ≠ BB ∧ p ≠ BW ∧ p ≠ BG ∧ p ≠ T
section
variable {W w w' : World} {p : Nat} {pc : Int} {rg fl : List Value} {tk rt : Int} {ev : Value} {B R C T BB BW BG n k : Nat} {X : Nat → Prop} {l : List Int} {ws : List Bool} {gs : List Int} {al : List (Int × Int)} {came : Nat} {q : List Int} {over : Bool} {out : List Int} {o m : Int} {s off : Bool} {code : Int}
theorem MC.below (h : MC W w p pc rg fl tk rt ev B R C T BB BW BG n k X l ws gs al came q over out o m s off code) (d : Below w.heap.size w w') : MC W w' p pc rg fl tk rt ev B R C T BB BW BG n k X l ws gs al came q over out o m s off code := ⟨h.im.below d, h.ib.below d, h.ap, h.d⟩
theorem MB.away (h : MB W w B R C T BB BW BG n k X l ws gs al came q over out o m s off code) (ho : Only p w w') (ap : W.heap.size ≤ p) (d : ¬ X p ∧ p ≠ B ∧ p ≠ R ∧ p ≠ BB ∧ p ≠ BW ∧ p ≠ BG ∧ p ≠ T) : MB W w' B R C T BB BW BG n k X l ws gs al came q over out o m s off code :=
  ⟨blk_only h.b ho (Ne.symm d.2.1), ram_move h.r fun i hi => ho.block i (ram_lt h.r i hi) (by have := d; rcases hi with rfl | rfl | rfl | rfl <;> omega),
    h.c.move (Y := fun i => i = p) (OnlyP.of_only ho rfl) (fun i hi e => d.1 (e ▸ hi)) (fun i e => e ▸ ap), h.t.only ho (Ne.symm d.2.2.2.2.2.2), h.ap, h.dis, h.tb, h.bb, h.n0⟩
/-- The machine's own block was written. -/
theorem MC.own (h : MC W w p pc rg fl tk rt ev B R C T BB BW BG n k X l ws gs al came q over out o m s off code) {pc' : Int} {rg' fl' : List Value} {tk' rt' : Int} {ev' : Value} (hm : IsM w' p pc' rg' fl' tk' rt' B ev') (ho : Only p w w') : MC W w' p pc' rg' fl' tk' rt' ev' B R C T BB BW BG n k X l ws gs al came q over out o m s off code :=
  ⟨hm, h.ib.away ho h.ap h.d, h.ap, h.d⟩
end

set_option maxRecDepth 100000 in
set_option maxHeartbeats 4000000 in
theorem cnew_ok (W w : World) (hW : Below W.heap.size W w) (n : Nat) (h0 : 64 ≤ n) (h1 : n ≤ 65536) (h2 : n % 64 = 0) (Ap : Option Addr) (np cp : Nat) (LL : List Int)
    (HL : ∀ w1 R BB BW BG, Below w.heap.size w w1 → w.heap.size ≤ R → w.heap.size ≤ BB → w.heap.size ≤ BW → w.heap.size ≤ BG → IsRam w1 R BB BW BG n (n / 64) (List.replicate n 0) (List.replicate (n / 64) false) (List.replicate (n / 64) 0) →
      Calls Try.prog 45 #[.pointer (some ⟨R, 0, none⟩), .slice Ap np cp] w1 fun e w2 => e = .returned (.int .i64 0) ∧ (∃ ws gs, IsRam w2 R BB BW BG n (n / 64) LL ws gs) ∧ OnlyP (fun b => b = BB ∨ b = BW ∨ b = BG) w1 w2)
    (A : Option Addr) (cl : Nat) (al : List (Int × Int)) (hA : AR w A al) (hn : A = none → al = [] ∧ cl = 0) (wa : ∀ p ∈ al, (0 ≤ p.1 ∧ p.1 < 18446744073709551616) ∧ 0 ≤ p.2 ∧ p.2 < 256) (ll : al.length ≤ 256) (hs : aord al al.length) :
    Calls Try.prog 13 #[.int .i64 (n : Int), .slice Ap np cp, .slice A al.length cl] w fun e w' => ∃ p B R C T BB BW BG X ws gs, e = .returned (.tuple #[.pointer (some ⟨p, 0, none⟩), .int .i64 0]) ∧ MC W w' p 2147483648 rZ fN 0 0 nl B R C T BB BW BG n (n / 64) X LL ws gs al 0 [] false [] 0 18446744073709551615 false false 0 ∧ Below w.heap.size w w' := by
  have HR := Aside0.mk (new_yes w n h0 h1 h2)
  have HC := Aside0.mk (fun w' (hb : Below w.heap.size w w') => kc_new W w' (below_on hW hb) A cl al (hA.below hb) hn wa ll hs)
  have HLL := Aside0.mk HL
  have hWs := hW.size
  clear hA hn wa hs hW HL
  go_enter Try.func13, Try.ntmps13
  go_wp2_with fail
  refine HR.out.mono ?_
  rintro e w1 ⟨rfl, ⟨BB, BW, BG, p1, p2, p3, ir⟩, b1⟩
  have IR := Aside0.mk ir
  have HP := Aside0.mk (And.intro p1 (And.intro p2 p3))
  have B1 := Aside0.mk b1
  obtain ⟨R, hR⟩ : ∃ R, w.heap.size + 1 + 1 + 1 = R := ⟨_, rfl⟩
  rw [hR] at IR ⊢
  have HRS : Aside0 (w.heap.size ≤ R) := ⟨by omega⟩
  clear ir b1 p1 p2 p3 hR HR
  go_wp2_with fail
  refine (HLL.out w1 R BB BW BG B1.out HRS.out HP.out.1 HP.out.2.1 HP.out.2.2 IR.out).mono ?_
  rintro e wl ⟨rfl, ⟨ws, gs, irl⟩, ol⟩
  have IRL := Aside0.mk irl
  have BL := Aside0.mk (ol.below (fun k hk => by have := HP.out; rcases hk with rfl | rfl | rfl <;> omega) B1.out)
  clear irl ol IR B1 HLL
  go_wp2_with fail
  refine (HC.out _ BL.out).mono ?_
  rintro e w2 ⟨C, X, rfl, kc, hx, b2⟩
  have KC2 := Aside0.mk kc
  have HX := Aside0.mk hx
  have IR2 := Aside0.mk (IRL.out.below b2)
  have B2 := Aside0.mk (below_on BL.out b2)
  have HD : Aside0 (∀ i, X i → i ≠ R ∧ i ≠ BB ∧ i ≠ BW ∧ i ≠ BG) := ⟨fun i hi => by
    have h := hx i hi
    have h1 := blk_lt IRL.out.r
    have h2 := blk_lt IRL.out.b
    have h3 := blk_lt IRL.out.f
    have h4 := blk_lt IRL.out.g
    exact ⟨by omega, by omega, by omega, by omega⟩⟩
  clear kc hx b2 HC IRL BL
  go_wp2_with fail
  refine (tnew_calls _).mono ?_
  rintro e w3 ⟨rfl, it, b3⟩
  have KC3 := Aside0.mk (KC2.out.below b3)
  have IR3 := Aside0.mk (IR2.out.below b3)
  have IT3 := Aside0.mk it
  have B3 := Aside0.mk (below_on B2.out b3)
  have HT : Aside0 (W.heap.size ≤ w2.heap.size ∧ (∀ i, X i → i ≠ w2.heap.size) ∧ w2.heap.size ≠ R ∧ w2.heap.size ≠ BB ∧ w2.heap.size ≠ BW ∧ w2.heap.size ≠ BG) := ⟨by
    have h1 := blk_lt IR2.out.r
    have h2 := blk_lt IR2.out.b
    have h3 := blk_lt IR2.out.f
    have h4 := blk_lt IR2.out.g
    have h5 := KC2.out.bel.size
    exact ⟨h5, fun i hi => Nat.ne_of_lt (KC2.out.xlt i hi), by omega, by omega, by omega, by omega⟩⟩
  clear it b3 KC2 IR2 B2
  generalize w2.heap.size = T at IT3 HT ⊢
  go_wp2_with fail
  refine (busnew_yes _ R C T).mono ?_
  rintro e w4 ⟨rfl, ib, b4⟩
  have FIN : Aside0 (MB W w4 w3.heap.size R C T BB BW BG n (n / 64) X LL ws gs al 0 [] false [] 0 18446744073709551615 false false 0 ∧ Below w.heap.size w w4) := ⟨by
    have g1 := blk_lt IR3.out.r
    have g2 := blk_lt IR3.out.b
    have g3 := blk_lt IR3.out.f
    have g4 := blk_lt IR3.out.g
    have g5 := IT3.out.lt
    have g6 := KC3.out.bel.size
    have g7 := HP.out
    have g8 := HRS.out
    have g9 := HT.out
    refine ⟨⟨ib, IR3.out.below b4, KC3.out.below b4, IT3.out.below b4, by omega, fun i hi => ?_, by omega, by omega, h1⟩, below_on B3.out b4⟩
    have := KC3.out.xlt i hi
    have h1 := HD.out i hi
    have h2 := HT.out.2.1 i hi
    exact ⟨by omega, h1.1, h1.2.1, h1.2.2.1, h1.2.2.2, h2⟩⟩
  clear ib b4 KC3 IR3 IT3 B3 HD HT HP HRS
  generalize w3.heap.size = B at FIN ⊢
  go_wp2_with fail
  refine (csr_New.calls 6144 0 0 0 0 0 0 0 0 _ rfl).mono ?_
  rintro e w5 ⟨rfl, b5⟩
  have FIN5 := Aside0.mk (And.intro (FIN.out.1.below b5) (below_on FIN.out.2 b5))
  clear b5 FIN
  go_wp2_with (first
    | (refine wpList_buildTo rfl 91 _ rfl (some 44) rfl _ (m_built B) ?_)
    | (refine wpList_box_arr rfl 91 (.tmp 44) rfl _ rfl ?_; intro w6 hb6 hB6; have HB6 := Aside0.mk hb6; have BB6 := Aside0.mk hB6; clear hb6 hB6))
  go_ret2
  refine ⟨w5.heap.size, B, R, C, T, BB, BW, BG, X, ws, gs, rfl, ⟨⟨HB6.out, rZ_len, rfl, rZ_one, fN_one, ⟨none, 0, 0, rfl⟩⟩, FIN5.out.1.below BB6.out, Nat.le_trans hWs FIN5.out.2.size, ?_⟩, below_on FIN5.out.2 BB6.out⟩
  have M5 := FIN5.out.1
  have g1 := blk_lt M5.r.r
  have g2 := blk_lt M5.r.b
  have g3 := blk_lt M5.r.f
  have g4 := blk_lt M5.r.g
  have g5 := M5.t.lt
  have g6 := blk_lt M5.b
  exact ⟨fun h => Nat.lt_irrefl _ (M5.c.xlt _ h), by omega, by omega, by omega, by omega, by omega, by omega⟩

section
variable {w : World} {p : Nat} {pc : Int} {rg fl : List Value} {tk rt : Int} {B : Nat} {ev : Value}
set_option maxRecDepth 100000 in
theorem chas_ok (w : World) (p : Nat) (n : Int) : Calls Try.prog 66 #[.pointer (some ⟨p, 0, none⟩), .int .i64 n] w fun e w' => e = .returned (.bool (decide (0 ≤ n) && decide (n < 32))) ∧ Drawn0 w w' := by
  go_enter Try.func66, Try.ntmps66
  rcases hd : decide (n ≥ 0) with _ | _
  · go_wp2
    go_ret
    have : ¬ 0 ≤ n := by simpa using hd
    exact ⟨by simp [this], Drawn0.refl _⟩
  · go_wp2
    go_ret
    have : 0 ≤ n := by simpa using hd
    exact ⟨by simp [this], Drawn0.refl _⟩
set_option maxRecDepth 100000 in
set_option maxHeartbeats 2000000 in
theorem cset_ok (h : IsM w p pc rg fl tk rt B ev) (n : Nat) (h0 : 0 < n) (h1 : n < 32) (x : Int) : Calls Try.prog 24 #[.pointer (some ⟨p, 0, none⟩), .int .i64 (n : Int), .int .u32 x] w fun e w' => e = .returned (.tuple #[]) ∧ IsM w' p pc (rg.set n (.int .u32 x)) fl tk rt B ev ∧ Only p w w' := by
  have H := Aside0.mk h
  clear h
  go_enter Try.func24, Try.ntmps24
  go_wp2_with fail
  refine (chas_ok _ _ _).mono ?_
  rintro e w1 ⟨rfl, d1⟩
  have e1 : (decide (0 ≤ (n : Int)) && decide ((n : Int) < 32)) = true := by simp; omega
  have e2 : decide ((n : Int) > 0) = true := by simp; omega
  rw [e1]
  have H1 := Aside0.mk (H.out.drawn d1)
  have O1 := Aside0.mk (Only.of_below (B := p) d1.below)
  clear d1 H
  obtain ⟨v0, hc⟩ : ∃ v, w1.cell? ⟨p, 1 + n, none⟩ = some v := ⟨_, H1.out.rr n _ (List.getElem?_eq_getElem (by rw [H1.out.r]; omega))⟩
  have hf := H1.out.fz (1 + n)
  go_wp2_with fail
  go_end0
  exact ⟨rfl, H1.out.setR n h1 x, O1.out.setCell _ _⟩
set_option maxRecDepth 100000 in
set_option maxHeartbeats 2000000 in
theorem cretire_ok (h : IsM w p pc rg fl tk rt B ev) (x : Int) : Calls Try.prog 25 #[.pointer (some ⟨p, 0, none⟩), .int .u32 x] w fun e w' => e = .returned (.tuple #[]) ∧ IsM w' p x rg fl (IntKind.u64.wrap (tk + 1)) (IntKind.u64.wrap (rt + 1)) B ev ∧ Only p w w' := by
  have H := Aside0.mk h
  have c0 := h.cpc
  have c1 := h.ctk
  have c2 := h.crt
  have f0 := h.fz 0
  have f1 := h.fz 42
  have f2 := h.fz 43
  clear h
  go_enter Try.func25, Try.ntmps25
  go_wp2
  go_end0
  exact ⟨rfl, ((H.out.setP x).setT _).setI _, (((Only.refl p w).setCell _ _).setCell _ _).setCell _ _⟩
end
end Go.Proofs.Ytfnbpmkbjbibkaa
