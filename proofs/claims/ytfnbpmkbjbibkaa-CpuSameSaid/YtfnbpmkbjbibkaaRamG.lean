/- The memory's Fill; Gen of a page that there is not. -/
import Derived.Test.YtfnbpmkbjbibkaaRamE
namespace Go.Proofs.Ytfnbpmkbjbibkaa
open Go Go.RowKit Go.Proofs.YtfnbpmkbjbibkaaW.PrintWords
set_option linter.unusedVariables false
set_option linter.unusedSimpArgs false

theorem vs_block_add (a : Addr) (n : Nat) : (a.add n).block = a.block := by unfold Addr.add; split <;> rfl
/-- The slice at A, of capacity c, reads as the scalars q (each written enc), and lies in no block that X holds of. -/
def VS {α : Type} (enc : α → Value) (w : World) (X : Nat → Prop) (A : Option Addr) (c : Nat) (q : List α) : Prop :=
  q.length ≤ c ∧ q.length ≤ 9223372036854775807 ∧ (q ≠ [] → ∃ ad, A = some ad ∧ ¬ X ad.block ∧ ∀ i p, q[i]? = some p → w.cell? (ad.add i) = some (enc p))
section
variable {α : Type} {enc : α → Value} {w w' : World} {X Y : Nat → Prop} {A : Option Addr} {c : Nat} {q : List α}
theorem VS.le (h : VS enc w X A c q) : q.length ≤ c := h.1
theorem VS.move (h : VS enc w X A c q) (hm : ∀ k, k < w.heap.size → ¬ X k → w'.heap[k]? = w.heap[k]?) : VS enc w' X A c q := by
  refine ⟨h.1, h.2.1, fun hq => ?_⟩
  obtain ⟨ad, rfl, hX, hc⟩ := h.2.2 hq
  refine ⟨ad, rfl, hX, fun i p hp => ?_⟩
  have h1 := hc i p hp
  have h2 := World.block_lt_of_cell? w _ h1
  rw [← h1]
  exact World.cell?_of_block (hm _ h2 (by rw [vs_block_add]; exact hX))
theorem VS.below (h : VS enc w X A c q) (k : Below w.heap.size w w') : VS enc w' X A c q := h.move fun i hi _ => k.block i hi
theorem VS.drawn (h : VS enc w X A c q) (k : Drawn0 w w') : VS enc w' X A c q := h.below k.below
theorem VS.onlyP (h : VS enc w X A c q) (k : OnlyP X w w') : VS enc w' X A c q := h.move fun i hi hn => k.block i hi hn
theorem VS.only {B : Nat} (h : VS enc w X A c q) (k : Only B w w') (hB : X B) : VS enc w' X A c q := h.onlyP (.of_only k hB)
theorem VS.wide (h : VS enc w X A c q) (hY : ∀ k, Y k → X k ∨ w.heap.size ≤ k) : VS enc w Y A c q := by
  refine ⟨h.1, h.2.1, fun hq => ?_⟩
  obtain ⟨ad, rfl, hX, hc⟩ := h.2.2 hq
  refine ⟨ad, rfl, fun hy => ?_, hc⟩
  obtain ⟨x, q', rfl⟩ := List.exists_cons_of_ne_nil hq
  have h2 := World.block_lt_of_cell? w _ (hc 0 x rfl)
  rw [vs_block_add] at h2
  rcases hY _ hy with h | h
  · exact hX h
  · omega
theorem VS.C {h1 : ∀ x, (enc x).oneCell' = true} (h : VS enc w X A c q) : (Kd.scalar enc h1).C w A q.length q := by
  refine ⟨rfl, h.2.1, fun hq => ?_⟩
  obtain ⟨ad, rfl, hX, hc⟩ := h.2.2 (by rintro rfl; simp at hq)
  refine ⟨ad, rfl, fun i p hp => ⟨[enc p], rfl, rfl, fun j u hu => ?_⟩⟩
  have hi : j = 0 ∧ u = enc p := by
    cases j with
    | zero => simp at hu; exact ⟨rfl, hu.symm⟩
    | succ m => simp at hu
  obtain ⟨rfl, rfl⟩ := hi
  show w.cell? (ad.add (i * 1 + 0)) = _
  rw [show i * 1 + 0 = i by omega]
  exact hc i p hp
theorem VS.of_C {h1 : ∀ x, (enc x).oneCell' = true} (h : (Kd.scalar enc h1).C w A q.length q) (hc : q.length ≤ c) (hX : ∀ ad, A = some ad → q ≠ [] → ¬ X ad.block) : VS enc w X A c q := by
  obtain ⟨_, hm, hr⟩ := h
  refine ⟨hc, hm, fun hq => ?_⟩
  obtain ⟨ad, rfl, hcs⟩ := hr (by cases q with | nil => exact absurd rfl hq | cons a b => simp)
  refine ⟨ad, rfl, hX _ rfl hq, fun i p hp => ?_⟩
  obtain ⟨cs, hlen, hK, hcc⟩ := hcs i p hp
  have hK' : cs = [enc p] := hK
  subst hK'
  have := hcc 0 _ rfl
  have e : i * (Kd.scalar enc h1).sz + 0 = i := by show i * 1 + 0 = i; omega
  rwa [e] at this
/-- What was made anew lies apart from all that was there. -/
theorem VS.of_R {h1 : ∀ x, (enc x).oneCell' = true} {e base : Nat} {ok : Nat → Prop} {v : Value} (h : (Kd.scalar enc h1).R e w base ok v q) (hX : ∀ k, X k → k < base) : ∃ A c, v = .slice A q.length c ∧ VS enc w X A c q := by
  obtain ⟨A, c, rfl, hl, hC⟩ := Kd.R_reads h
  refine ⟨A, c, rfl, VS.of_C hC hl fun ad ha hq hx => ?_⟩
  subst ha
  have hb := (Kd.R_bound h).1 ad.block (by simp [Value.ownBlock])
  have := hX _ hx
  omega
theorem VS.get (h : VS enc w X A c q) {i : Nat} {p : α} (hp : q[i]? = some p) : ∃ ad, A = some ad ∧ w.cell? (ad.add i) = some (enc p) := by
  obtain ⟨ad, rfl, _, hc⟩ := h.2.2 (by rintro rfl; simp at hp)
  exact ⟨ad, rfl, hc i p hp⟩
end
/-- A whole block of scalars, as a row that is read. -/
theorem VS.of_block {α : Type} {enc : α → Value} {w : World} {X : Nat → Prop} {g t : Nat} {q : List α} (h : w.heap[g]? = some (.cells (q.map enc).toArray t (0, 0))) (hX : ¬ X g) (hm : q.length ≤ 9223372036854775807) : VS enc w X (some ⟨g, 0, none⟩) q.length q := by
  refine ⟨Nat.le_refl _, hm, fun hq => ⟨_, rfl, hX, fun i p hp => ?_⟩⟩
  rw [show (⟨g, 0, none⟩ : Addr).add i = ⟨g, i, none⟩ from add_plain g i, blk_cell h i]
  simp [hp]
end Go.Proofs.Ytfnbpmkbjbibkaa

namespace Go.Proofs.Ytfnbpmkbjbibkaa
open Go Go.RowKit Go.Proofs.YtfnbpmkbjbibkaaW.PrintWords
set_option linter.unusedVariables false
set_option linter.unusedSimpArgs false
section
variable {w : World} {R BB BW BG n k : Nat} {l : List Int} {ws : List Bool} {gs : List Int}
set_option maxRecDepth 100000 in
theorem fill_empty (w : World) (R : Nat) (a : Int) (p : Option Addr) (c : Nat) : Calls Try.prog 74 #[.pointer (some ⟨R, 0, none⟩), .int .u32 a, .slice p 0 c] w fun e w' => e = .returned (.int .i64 0) ∧ Drawn0 w w' := by
  go_enter Try.func74, Try.ntmps74
  go_wp2
  go_ret
  exact ⟨rfl, Drawn0.refl _⟩
set_option maxRecDepth 100000 in
theorem fill_no (a : Int) (p : Option Addr) (m c : Nat) (h : IsRam w R BB BW BG n k l ws gs) (hn : n ≤ 65536) (a0 : 0 ≤ a) (a1 : a < 4294967296) (m0 : ((m : Int) == 0) = false) (hr : rhas n a m = false) : Calls Try.prog 74 #[.pointer (some ⟨R, 0, none⟩), .int .u32 a, .slice p m c] w fun e w' => e = .returned (.int .i64 6) ∧ Drawn0 w w' := by
  have HH := has_calls w a m h hn a0 a1
  rw [hr] at HH
  have HH := Aside0.mk HH
  clear h hr
  go_enter Try.func74, Try.ntmps74
  go_wp2_with fail
  refine HH.out.mono ?_
  rintro e w1 ⟨rfl, d1⟩
  go_wp2_with fail
  go_ret
  exact ⟨rfl, d1⟩
set_option maxRecDepth 100000 in
theorem fill_yes (a : Int) (j m c : Nat) (ad : Addr) (bs : List Int) (h : IsRam w R BB BW BG n k l ws gs) (hn : n ≤ 65536) (a0 : 2147483648 ≤ a) (a1 : a < 4294967296) (m0 : ((m : Int) == 0) = false) (hr : rhas n a m = true) (hj : a - 2147483648 = j) (hm : j + m ≤ n) (hl : bs.length = m) (hb : ∀ i q, bs[i]? = some q → w.cell? (ad.add i) = some (.int .u8 q)) :
    Calls Try.prog 74 #[.pointer (some ⟨R, 0, none⟩), .int .u32 a, .slice (some ad) m c] w fun e w' => e = .returned (.int .i64 0) ∧ IsRam w' R BB BW BG n k (l.take j ++ bs ++ l.drop (j + m)) ws gs ∧ Only BB w w' := by
  have hm0 : 0 < m := by
    have : (m : Int) ≠ 0 := by simpa using m0
    omega
  have HH := has_calls w a m h hn (by omega) a1
  rw [hr] at HH
  have HH := Aside0.mk HH
  have H := Aside0.mk h
  have HB := Aside0.mk hb
  have HL := Aside0.mk hl
  clear h hr hb hl
  go_enter Try.func74, Try.ntmps74
  go_wp2_with fail
  refine HH.out.mono ?_
  rintro e w1 ⟨rfl, d1⟩
  have H1 := Aside0.mk (H.out.drawn d1)
  have D1 := Aside0.mk d1
  clear d1 H HH
  go_wp2_with fail
  refine (at_calls _ a j m H1.out hn a0 hj hm hm0).mono ?_
  rintro e w3 ⟨rfl, d3⟩
  have H3 := Aside0.mk (H1.out.drawn d3)
  have D3 := Aside0.mk (drawn_trans D1.out d3)
  have cp : ∀ ty, (Builtin.copy_ #[40, 40] ty #[.slice (some ⟨BB, j, none⟩) m m, .slice (some ad) m c]).run Try.prog w3 = .ok (goInt m) (w3.setCells BB j (bs.map (Value.int .u8))) := by
    intro ty
    have hl := HL.out
    have := run_copy_cells (P := Try.prog) w3 40 40 ty 5 BB j m m ad m c (bs.map (Value.int .u8)) Try.underlying40 (by kernel_rfl) (by simp [hl]) (fun i v hi => ?_) (fun i hi => ?_) (fun i hi => ?_) (fun v hv => ?_)
    · simpa [hl] using this
    · rw [List.getElem?_map] at hi
      obtain ⟨q, hq, rfl⟩ := Option.map_eq_some_iff.1 hi
      exact pw_cell_below D3.out.below (HB.out i q hq)
    · rw [blk_cell H3.out.b (j + i)]
      exact brow_some _ _ (by have := H3.out.nl; simp [hl] at hi; omega)
    · exact blk_frozen H3.out.b _
    · obtain ⟨q, _, rfl⟩ := List.mem_map.1 hv
      rfl
  have H4 := H3.out.put bs j (by rw [HL.out]; omega)
  rw [HL.out] at H4
  have H4 := Aside0.mk H4
  have O4 := Aside0.mk ((Only.of_below (B := BB) D3.out.below).trans (only_setCells (B := BB) (bs.map (Value.int .u8)) j w3))
  clear d3 H3 H1 D1 D3 HB
  go_wp2_with fail
  go_ret
  exact ⟨rfl, H4.out, O4.out⟩
end
end Go.Proofs.Ytfnbpmkbjbibkaa
