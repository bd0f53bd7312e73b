/- The memory's Load and Store. -/
import Derived.Test.YtonfblfbmnepoaaRamC
namespace Go.Proofs.Ytonfblfbmnepoaa
open Go Go.RowKit Go.Proofs.YtonfblfbmnepoaaW.PrintWords
set_option linter.unusedVariables false
set_option linter.unusedSimpArgs false

theorem drawn_trans {a b c : World} (h : Drawn0 a b) (k : Drawn0 b c) : Drawn0 a c := by
  obtain ⟨⟨n, rfl⟩⟩ := k
  exact h.step n
theorem addr_add (B j i : Nat) : (⟨B, j, none⟩ : Addr).add i = ⟨B, j + i, none⟩ := by
  simp [Addr.add]; try omega
/-- A part of a row of bytes, as it is read. -/
theorem brow_C {w : World} {BB : Nat} {l : List Int} (h : w.heap[BB]? = some (.cells (brow l) 5)) (j m : Nat) (hm : j + m ≤ l.length) (hl : l.length ≤ 65536) : (Kd.int .u8).C w (some ⟨BB, j, none⟩) m ((l.drop j).take m) := by
  refine ⟨by simp; omega, by omega, fun _ => ⟨_, rfl, fun i p hp => ⟨[.int .u8 p], rfl, rfl, fun i' u hu => ?_⟩⟩⟩
  have hi : i' = 0 ∧ u = .int .u8 p := by
    cases i' with
    | zero => simp at hu; exact ⟨rfl, hu.symm⟩
    | succ q => simp at hu
  obtain ⟨rfl, rfl⟩ := hi
  rw [addr_add, blk_cell h, brow_get]
  have : (l.drop j)[i]? = some p := by
    rw [List.getElem?_take] at hp
    split at hp
    · exact hp
    · cases hp
  rw [List.getElem?_drop] at this
  show (l.map (Value.int .u8))[j + (i * 1 + 0)]? = _
  rw [List.getElem?_map, show j + (i * 1 + 0) = j + i by omega, this]
  rfl

set_option maxRecDepth 100000 in
theorem at_calls (w : World) {R BB BW BG n k : Nat} {l : List Int} {ws : List Bool} {gs : List Int} (a : Int) (j m : Nat) (h : IsRam w R BB BW BG n k l ws gs) (hn : n ≤ 65536) (ha : 2147483648 ≤ a) (hj : a - 2147483648 = j) (hm : j + m ≤ n) (m0 : 0 < m) : Calls Try.prog 49 #[.pointer (some ⟨R, 0, none⟩), .int .u32 a, .int .i64 m] w fun e w' => e = .returned (.slice (some ⟨BB, j, none⟩) m m) ∧ Drawn0 w w' := by
  have c0 := h.c0
  clear h
  have w1 : wrap64 ((j : Int) + m) = ((j + m : Nat) : Int) := by simp [wrap64, IntKind.wrap, IntKind.bits, IntKind.signed]; omega
  have w2 : IntKind.u32.wrap (a - 2147483648) = j := by simp [IntKind.wrap, IntKind.bits, IntKind.signed]; omega
  go_enter Try.func49, Try.ntmps49
  go_wp2
  all_goals first
    | (exfalso; omega)
    | (have e9 : j + m - j = m := by omega
       simp only [e9]
       go_ret
       exact ⟨rfl, Drawn0.refl _⟩)
    | (go_ret; exact ⟨rfl, Drawn0.refl _⟩)

set_option maxRecDepth 100000 in
theorem load_no (w : World) {R BB BW BG n k : Nat} {l : List Int} {ws : List Bool} {gs : List Int} (a m e0 : Int) (h : IsRam w R BB BW BG n k l ws gs) (hn : n ≤ 65536) (a0 : 0 ≤ a) (a1 : a < 4294967296) (he : rasked n a m = e0) (hz : (e0 != 0) = true) : Calls Try.prog 23 #[.pointer (some ⟨R, 0, none⟩), .int .u32 a, .int .i64 m] w fun e w' => e = .returned (.tuple #[.int .u32 0, .int .i64 e0]) ∧ Drawn0 w w' := by
  have HH := Aside0.mk (asked_calls w a m h hn a0 a1)
  rw [he] at HH
  clear h he
  go_enter Try.func23, Try.ntmps23
  go_wp2_with fail
  refine HH.out.mono ?_
  rintro e w1 ⟨rfl, d1⟩
  go_wp2_with fail
  go_ret2
  exact ⟨rfl, d1⟩

open Go.Proofs.Ytonfblfbmnepoaa.PRamNews in
set_option maxRecDepth 100000 in
theorem load_yes (w : World) {R BB BW BG n k K : Nat} {l : List Int} {ws : List Bool} {gs : List Int} (a : Int) (j m : Nat) (r e0 : Int) (h : IsRam w R BB BW BG n k l ws gs) (hn : n ≤ 65536) (a0 : 2147483648 ≤ a) (a1 : a < 4294967296) (he : rasked n a m = 0) (hj : a - 2147483648 = j) (hm : j + m ≤ n) (m0 : 0 < m) (hN : word_Number.f K ((l.drop j).take m) = some (r, e0)) : Calls Try.prog 23 #[.pointer (some ⟨R, 0, none⟩), .int .u32 a, .int .i64 m] w fun e w' => e = .returned (.tuple #[.int .u32 r, .int .i64 e0]) ∧ Drawn0 w w' := by
  have HH := Aside0.mk (asked_calls w a m h hn (by omega) a1)
  rw [he] at HH
  have H := Aside0.mk h
  have HN := Aside0.mk hN
  have hlen : ((l.drop j).take m).length = m := by simp; have := h.nl; omega
  clear h he hN
  go_enter Try.func23, Try.ntmps23
  go_wp2_with fail
  refine HH.out.mono ?_
  rintro e w1 ⟨rfl, d1⟩
  have H1 := Aside0.mk (H.out.drawn d1)
  have D1 := Aside0.mk d1
  clear d1
  go_wp2_with fail
  refine (at_calls _ a j m H1.out hn a0 hj hm m0).mono ?_
  rintro e w2 ⟨rfl, d2⟩
  have H2 := Aside0.mk (H1.out.drawn d2)
  have D2 := Aside0.mk (drawn_trans D1.out d2)
  have NC := word_Number.calls K (some ⟨BB, j, none⟩) m _ r e0 w2 (by rw [hlen]; exact brow_C H2.out.b j m (by rw [H2.out.nl]; exact hm) (by rw [H2.out.nl]; exact hn)) (by rw [hlen]; exact Nat.le_refl _) HN.out
  rw [hlen] at NC
  have N := Aside0.mk NC
  clear d2 NC
  go_wp2_with fail
  refine N.out.mono ?_
  rintro e w3 ⟨rfl, d3⟩
  have D3 := Aside0.mk (drawn_trans D2.out d3)
  clear d3
  go_wp2_with fail
  go_ret2
  exact ⟨rfl, D3.out⟩

end Go.Proofs.Ytonfblfbmnepoaa
