/- The memory's Store. -/
import Derived.Test.YtonfblfbmnepoaaRamD
namespace Go.Proofs.Ytonfblfbmnepoaa
open Go Go.RowKit Go.Proofs.YtonfblfbmnepoaaW.PrintWords
set_option linter.unusedVariables false
set_option linter.unusedSimpArgs false

/-- Writes to some blocks alone (those that P holds of), and new blocks. -/
structure OnlyP (P : Nat → Prop) (w w' : World) : Prop where
  os : w'.os = w.os
  tape : w'.tape = w.tape
  output : w'.output = w.output
  size : w.heap.size ≤ w'.heap.size
  block : ∀ k, k < w.heap.size → ¬ P k → w'.heap[k]? = w.heap[k]?
theorem OnlyP.refl (P : Nat → Prop) (w : World) : OnlyP P w w := ⟨rfl, rfl, rfl, Nat.le_refl _, fun _ _ _ => rfl⟩
theorem OnlyP.trans {P : Nat → Prop} {a b c : World} (h : OnlyP P a b) (k : OnlyP P b c) : OnlyP P a c :=
  ⟨k.os.trans h.os, k.tape.trans h.tape, k.output.trans h.output, Nat.le_trans h.size k.size, fun i hi hn => (k.block i (Nat.lt_of_lt_of_le hi h.size) hn).trans (h.block i hi hn)⟩
theorem OnlyP.of_below {P : Nat → Prop} {w w' : World} (h : Below w.heap.size w w') : OnlyP P w w' := ⟨h.os, h.tape, h.output, h.size, fun k hk _ => h.block k hk⟩
theorem OnlyP.of_only {P : Nat → Prop} {B : Nat} {w w' : World} (h : Only B w w') (hB : P B) : OnlyP P w w' := ⟨h.os, h.tape, h.output, h.size, fun k hk hn => h.block k hk (fun e => hn (e ▸ hB))⟩
theorem OnlyP.drawn {P : Nat → Prop} {a w w' : World} (h : OnlyP P a w) (d : Drawn0 w w') : OnlyP P a w' := h.trans (.of_below d.below)
theorem OnlyP.below {P : Nat → Prop} {W w w' : World} (h : OnlyP P w w') (hP : ∀ k, P k → W.heap.size ≤ k) (hb : Below W.heap.size W w) : Below W.heap.size W w' :=
  hb.trans ⟨h.os, h.tape, h.output, h.size, fun k hk => h.block k (Nat.lt_of_lt_of_le hk hb.size) (fun hp => by have := hP k hp; omega)⟩
theorem frow_set (ws : List Bool) (p : Nat) (b : Bool) : (frow ws).setIfInBounds p (.bool b) = frow (ws.set p b) := by
  apply Array.toList_inj.1; simp [frow, List.map_set]
theorem grow_set (gs : List Int) (p : Nat) (b : Int) : (grow gs).setIfInBounds p (.int .u64 b) = grow (gs.set p b) := by
  apply Array.toList_inj.1; simp [grow, List.map_set]
section
variable {w : World} {R BB BW BG n k : Nat} {l : List Int} {ws : List Bool} {gs : List Int}
theorem IsRam.put (h : IsRam w R BB BW BG n k l ws gs) (bs : List Int) (j : Nat) (hj : j + bs.length ≤ n) : IsRam (w.setCells BB j (bs.map (Value.int .u8))) R BB BW BG n k (l.take j ++ bs ++ l.drop (j + bs.length)) ws gs := by
  have o := only_setCells (B := BB) (bs.map (Value.int .u8)) j w
  refine ⟨blk_only h.r o h.rb, ?_, blk_only h.f o (Ne.symm h.bf), blk_only h.g o (Ne.symm h.bg), ?_, h.nw, h.ng, h.rb, h.rf, h.rg, h.bf, h.bg, h.fg⟩
  · have := blk_setCells (bs.map (Value.int .u8)) j w _ h.b
    rwa [brow_put _ _ _ (by rw [h.nl]; exact hj)] at this
  · have := h.nl
    simp; omega
theorem IsRam.setF (h : IsRam w R BB BW BG n k l ws gs) (p : Nat) (b : Bool) : IsRam (w.setCell ⟨BW, p, none⟩ (.bool b)) R BB BW BG n k l (ws.set p b) gs := by
  have o := (Only.refl BW w).setCell p (.bool b)
  refine ⟨blk_only h.r o h.rf, blk_only h.b o h.bf, ?_, blk_only h.g o (Ne.symm h.fg), h.nl, by rw [List.length_set]; exact h.nw, h.ng, h.rb, h.rf, h.rg, h.bf, h.bg, h.fg⟩
  have := blk_set h.f p (.bool b)
  rwa [frow_set] at this
theorem IsRam.setG (h : IsRam w R BB BW BG n k l ws gs) (p : Nat) (b : Int) : IsRam (w.setCell ⟨BG, p, none⟩ (.int .u64 b)) R BB BW BG n k l ws (gs.set p b) := by
  have o := (Only.refl BG w).setCell p (.int .u64 b)
  refine ⟨blk_only h.r o h.rg, blk_only h.b o h.bg, blk_only h.f o h.fg, ?_, h.nl, h.nw, by rw [List.length_set]; exact h.ng, h.rb, h.rf, h.rg, h.bf, h.bg, h.fg⟩
  have := blk_set h.g p (.int .u64 b)
  rwa [grow_set] at this
theorem IsRam.cf (h : IsRam w R BB BW BG n k l ws gs) (p : Nat) {b : Bool} (hp : ws[p]? = some b) : w.cell? ⟨BW, p, none⟩ = some (.bool b) := by
  rw [blk_cell h.f p]; simp [frow, hp]
theorem IsRam.cg (h : IsRam w R BB BW BG n k l ws gs) (p : Nat) {b : Int} (hp : gs[p]? = some b) : w.cell? ⟨BG, p, none⟩ = some (.int .u64 b) := by
  rw [blk_cell h.g p]; simp [grow, hp]
end

set_option maxRecDepth 100000 in
theorem store_no (w : World) {R BB BW BG n k : Nat} {l : List Int} {ws : List Bool} {gs : List Int} (a m x e0 : Int) (h : IsRam w R BB BW BG n k l ws gs) (hn : n ≤ 65536) (a0 : 0 ≤ a) (a1 : a < 4294967296) (he : rasked n a m = e0) (hz : (e0 != 0) = true) : Calls Try.prog 24 #[.pointer (some ⟨R, 0, none⟩), .int .u32 a, .int .i64 m, .int .u32 x] w fun e w' => e = .returned (.tuple #[.bool false, .int .i64 e0]) ∧ Drawn0 w w' := by
  have HH := Aside0.mk (asked_calls w a m h hn a0 a1)
  rw [he] at HH
  clear h he
  go_enter Try.func24, Try.ntmps24
  go_wp2_with fail
  refine HH.out.mono ?_
  rintro e w1 ⟨rfl, d1⟩
  go_wp2_with fail
  go_ret2
  exact ⟨rfl, d1⟩

open Go.Proofs.Ytonfblfbmnepoaa.PRamNews in
set_option maxRecDepth 100000 in
theorem store_yes (w : World) {R BB BW BG n k K : Nat} {l : List Int} {ws : List Bool} {gs : List Int} (a x : Int) (j m p : Nat) (bs : List Int) (e0 : Int) (g : Int) (hit : Bool) (h : IsRam w R BB BW BG n k l ws gs) (hn : n ≤ 65536) (a0 : 2147483648 ≤ a) (a1 : a < 4294967296) (he : rasked n a m = 0) (hj : a - 2147483648 = j) (hm : j + m ≤ n) (m0 : 0 < m) (hp : rpage n a = (p : Int)) (hk : p < k) (hh : ws[p]? = some hit) (hl : bs.length = m) (hg : gs[p]? = some g) (hN : word_Bytes.f K x m = some (bs, e0)) : Calls Try.prog 24 #[.pointer (some ⟨R, 0, none⟩), .int .u32 a, .int .i64 m, .int .u32 x] w fun e w' => e = .returned (.tuple #[.bool hit, .int .i64 0]) ∧ IsRam w' R BB BW BG n k (l.take j ++ bs ++ l.drop (j + m)) (if hit = true then ws.set p false else ws) (if hit = true then gs.set p (IntKind.u64.wrap (g + 1)) else gs) ∧ OnlyP (fun b => b = BB ∨ b = BW ∨ b = BG) w w' := by
  obtain ⟨L', hL⟩ : ∃ L', l.take j ++ bs ++ l.drop (j + m) = L' := ⟨_, rfl⟩
  obtain ⟨g', hg'⟩ : ∃ g', IntKind.u64.wrap (g + 1) = g' := ⟨_, rfl⟩
  rw [hL, hg']
  have HL := Aside0.mk hL
  clear hL
  have HH := Aside0.mk (asked_calls w a m h hn (by omega) a1)
  rw [he] at HH
  have H := Aside0.mk h
  have HN := Aside0.mk hN
  clear h he hN
  go_enter Try.func24, Try.ntmps24
  go_wp2_with fail
  refine HH.out.mono ?_
  rintro e w1 ⟨rfl, d1⟩
  have H1 := Aside0.mk (H.out.drawn d1)
  have D1 := Aside0.mk d1
  clear d1
  go_wp2_with fail
  refine (word_Bytes.calls K x m bs e0 _ HN.out).mono ?_
  rintro e w2 ⟨v0, rfl, hR, hb⟩
  obtain ⟨A, c, rfl, hc, hC⟩ := Kd.R_reads hR
  obtain ⟨_, _, had⟩ := hC
  obtain ⟨ad, rfl, hcells⟩ := had (by omega)
  rw [hl] at hc ⊢
  have H2 := Aside0.mk (H1.out.below hb)
  have B2 := Aside0.mk (below_on D1.out.below hb)
  have HC := Aside0.mk hcells
  clear hb hR D1 H1
  go_wp2_with fail
  refine (at_calls _ a j m H2.out hn a0 hj hm m0).mono ?_
  rintro e w3 ⟨rfl, d3⟩
  have H3 := Aside0.mk (H2.out.drawn d3)
  have B3 := Aside0.mk (below_on B2.out d3.below)
  have cp : ∀ ty, (Builtin.copy_ #[29, 29] ty #[.slice (some ⟨BB, j, none⟩) m m, .slice (some ad) m c]).run Try.prog w3 = .ok (goInt m) (w3.setCells BB j (bs.map (Value.int .u8))) := by
    intro ty
    have := run_copy_cells (P := Try.prog) w3 29 29 ty 5 BB j m m ad m c (bs.map (Value.int .u8)) Try.underlying29 (by kernel_rfl) (by simp [hl]) (fun i v hi => ?_) (fun i hi => ?_) (fun i hi => ?_) (fun v hv => ?_)
    · simpa [hl] using this
    · rw [List.getElem?_map] at hi
      obtain ⟨q, hq, rfl⟩ := Option.map_eq_some_iff.1 hi
      obtain ⟨cs, hlen, hK, hcs⟩ := HC.out i q hq
      have hK' : cs = [Value.int .u8 q] := hK
      subst hK'
      have := hcs 0 _ rfl
      rw [show i * (Kd.int .u8).sz + 0 = i from Nat.mul_one i] at this
      exact pw_cell_below d3.below this
    · rw [blk_cell H3.out.b (j + i)]
      exact brow_some _ _ (by have := H3.out.nl; simp [hl] at hi; omega)
    · exact blk_frozen H3.out.b _
    · obtain ⟨q, _, rfl⟩ := List.mem_map.1 hv
      rfl
  have H4 := Aside0.mk (H3.out.put bs j (by omega))
  have O4 := Aside0.mk ((OnlyP.of_below (P := fun b => b = BB ∨ b = BW ∨ b = BG) B3.out).trans (.of_only (only_setCells (B := BB) (bs.map (Value.int .u8)) j w3) (.inl rfl)))
  clear d3 B3 H3 B2 H2 HC
  go_wp2_with fail
  have PG := page_calls _ a H4.out hn (by omega) a1
  rw [hp] at PG
  rw [hl, HL.out] at H4
  refine PG.mono ?_
  clear PG
  rintro e w5 ⟨rfl, d5⟩
  have H5 := Aside0.mk (H4.out.drawn d5)
  have O5 := Aside0.mk (O4.out.drawn d5)
  have c1 := H5.out.c1
  have cf := H5.out.cf p hh
  clear d5 H4 O4 cp
  cases hit
  · go_wp2_with fail
    go_ret2
    exact ⟨rfl, H5.out, O5.out⟩
  · have zf := blk_frozen H5.out.f p
    have H6 := Aside0.mk (H5.out.setF p false)
    have c2 := H6.out.c2
    have cg := H6.out.cg p hg
    have zg := blk_frozen H6.out.g p
    have c1' := H6.out.c1
    have O6 := Aside0.mk (O5.out.trans (.of_only ((Only.refl BW _).setCell p (.bool false)) (.inr (.inl rfl))))
    have H7 := Aside0.mk (H6.out.setG p g')
    have O7 := Aside0.mk (O6.out.trans (.of_only ((Only.refl BG _).setCell p (.int .u64 g')) (.inr (.inr rfl))))
    go_wp2_with fail
    go_ret2
    exact ⟨rfl, H7.out, O7.out⟩

end Go.Proofs.Ytonfblfbmnepoaa
