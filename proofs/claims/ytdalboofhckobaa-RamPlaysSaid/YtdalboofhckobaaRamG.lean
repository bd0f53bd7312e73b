/- The memory's Fill; Gen of a page that there is not. -/
import Derived.Test.YtdalboofhckobaaRamRow
namespace Go.Proofs.Ytdalboofhckobaa
open Go Go.RowKit Go.Proofs.YtdalboofhckobaaW.PrintWords
set_option linter.unusedVariables false
set_option linter.unusedSimpArgs false
section
variable {w : World} {R BB BW BG n k : Nat} {l : List Int} {ws : List Bool} {gs : List Int}
set_option maxRecDepth 100000 in
theorem gen_no (p : Int) (h : IsRam w R BB BW BG n k l ws gs) (hp : (decide (0 ≤ p) && decide (p < k)) = false) : Calls Try.prog 28 #[.pointer (some ⟨R, 0, none⟩), .int .i64 p] w fun e w' => e = .returned (.int .u64 0) ∧ Drawn0 w w' := by
  have HH := hasp_calls p h
  rw [hp] at HH
  have HH := Aside0.mk HH
  clear h hp
  go_enter Try.func28, Try.ntmps28
  go_wp2_with fail
  refine HH.out.mono ?_
  rintro e w1 ⟨rfl, d1⟩
  go_wp2_with fail
  go_ret
  exact ⟨rfl, d1⟩
set_option maxRecDepth 100000 in
theorem fill_empty (w : World) (R : Nat) (a : Int) (p : Option Addr) (c : Nat) : Calls Try.prog 25 #[.pointer (some ⟨R, 0, none⟩), .int .u32 a, .slice p 0 c] w fun e w' => e = .returned (.int .i64 0) ∧ Drawn0 w w' := by
  go_enter Try.func25, Try.ntmps25
  go_wp2
  go_ret
  exact ⟨rfl, Drawn0.refl _⟩
set_option maxRecDepth 100000 in
theorem fill_no (a : Int) (p : Option Addr) (m c : Nat) (h : IsRam w R BB BW BG n k l ws gs) (hn : n ≤ 65536) (a0 : 0 ≤ a) (a1 : a < 4294967296) (m0 : ((m : Int) == 0) = false) (hr : rhas n a m = false) : Calls Try.prog 25 #[.pointer (some ⟨R, 0, none⟩), .int .u32 a, .slice p m c] w fun e w' => e = .returned (.int .i64 6) ∧ Drawn0 w w' := by
  have HH := has_calls w a m h hn a0 a1
  rw [hr] at HH
  have HH := Aside0.mk HH
  clear h hr
  go_enter Try.func25, Try.ntmps25
  go_wp2_with fail
  refine HH.out.mono ?_
  rintro e w1 ⟨rfl, d1⟩
  go_wp2_with fail
  go_ret
  exact ⟨rfl, d1⟩
set_option maxRecDepth 100000 in
theorem fill_yes (a : Int) (j m c : Nat) (ad : Addr) (bs : List Int) (h : IsRam w R BB BW BG n k l ws gs) (hn : n ≤ 65536) (a0 : 2147483648 ≤ a) (a1 : a < 4294967296) (m0 : ((m : Int) == 0) = false) (hr : rhas n a m = true) (hj : a - 2147483648 = j) (hm : j + m ≤ n) (hl : bs.length = m) (hb : ∀ i q, bs[i]? = some q → w.cell? (ad.add i) = some (.int .u8 q)) :
    Calls Try.prog 25 #[.pointer (some ⟨R, 0, none⟩), .int .u32 a, .slice (some ad) m c] w fun e w' => e = .returned (.int .i64 0) ∧ IsRam w' R BB BW BG n k (l.take j ++ bs ++ l.drop (j + m)) ws gs ∧ Only BB w w' := by
  have hm0 : 0 < m := by
    have : (m : Int) ≠ 0 := by simpa using m0
    omega
  have HH := has_calls w a m h hn (by omega) a1
  rw [hr] at HH
  have HH := Aside0.mk HH
  have H := Aside0.mk h
  have HB := Aside0.mk hb
  have HL := Aside0.mk hl
  clear h hr hb hl
  go_enter Try.func25, Try.ntmps25
  go_wp2_with fail
  refine HH.out.mono ?_
  rintro e w1 ⟨rfl, d1⟩
  have H1 := Aside0.mk (H.out.drawn d1)
  have D1 := Aside0.mk d1
  clear d1 H HH
  go_wp2_with fail
  refine (at_calls _ a j m H1.out hn a0 hj hm hm0).mono ?_
  rintro e w3 ⟨rfl, d3⟩
  have H3 := Aside0.mk (H1.out.drawn d3)
  have D3 := Aside0.mk (drawn_trans D1.out d3)
  have cp : ∀ ty, (Builtin.copy_ #[29, 29] ty #[.slice (some ⟨BB, j, none⟩) m m, .slice (some ad) m c]).run Try.prog w3 = .ok (goInt m) (w3.setCells BB j (bs.map (Value.int .u8))) := by
    intro ty
    have hl := HL.out
    have := run_copy_cells (P := Try.prog) w3 29 29 ty 5 BB j m m ad m c (bs.map (Value.int .u8)) Try.underlying29 (by kernel_rfl) (by simp [hl]) (fun i v hi => ?_) (fun i hi => ?_) (fun i hi => ?_) (fun v hv => ?_)
    · simpa [hl] using this
    · rw [List.getElem?_map] at hi
      obtain ⟨q, hq, rfl⟩ := Option.map_eq_some_iff.1 hi
      exact pw_cell_below D3.out.below (HB.out i q hq)
    · rw [blk_cell H3.out.b (j + i)]
      exact brow_some _ _ (by have := H3.out.nl; simp [hl] at hi; omega)
    · exact blk_frozen H3.out.b _
    · obtain ⟨q, _, rfl⟩ := List.mem_map.1 hv
      rfl
  have H4 := H3.out.put bs j (by rw [HL.out]; omega)
  rw [HL.out] at H4
  have H4 := Aside0.mk H4
  have O4 := Aside0.mk ((Only.of_below (B := BB) D3.out.below).trans (only_setCells (B := BB) (bs.map (Value.int .u8)) j w3))
  clear d3 H3 H1 D1 D3 HB
  go_wp2_with fail
  go_ret
  exact ⟨rfl, H4.out, O4.out⟩
end
end Go.Proofs.Ytdalboofhckobaa
