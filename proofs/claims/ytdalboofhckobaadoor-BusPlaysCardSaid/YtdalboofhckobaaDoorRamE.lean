/- The memory's Store. -/
import Derived.Test.YtdalboofhckobaaDoorRam
import Derived.Laws.IdiomCopy
namespace Go.Proofs.YtdalboofhckobaaDoor
open Go Go.RowKit Go.Proofs.YtdalboofhckobaaDoorW.PrintWords
set_option linter.unusedVariables false
set_option linter.unusedSimpArgs false

set_option maxRecDepth 100000 in
theorem asked_nil (w : World) (a m : Int) : Calls Tryd.prog 58 #[.pointer none, .int .u32 a, .int .i64 m] w fun e w' => e = .returned (.int .i64 2) ∧ Drawn0 w w' := by
  go_enter Tryd.func58, Tryd.ntmps58
  go_wp2
  go_ret
  exact ⟨rfl, Drawn0.refl _⟩

set_option maxRecDepth 100000 in
theorem load_nil (w : World) (a m : Int) : Calls Tryd.prog 41 #[.pointer none, .int .u32 a, .int .i64 m] w fun e w' => e = .returned (.tuple #[.int .u32 0, .int .i64 2]) ∧ Drawn0 w w' := by
  go_enter Tryd.func41, Tryd.ntmps41
  go_wp2_with fail
  refine (asked_nil _ _ _).mono ?_
  rintro e w1 ⟨rfl, d1⟩
  go_wp2_with fail
  go_ret2
  exact ⟨rfl, d1⟩

set_option maxRecDepth 100000 in
theorem store_nil (w : World) (a m x : Int) : Calls Tryd.prog 38 #[.pointer none, .int .u32 a, .int .i64 m, .int .u32 x] w fun e w' => e = .returned (.tuple #[.bool false, .int .i64 2]) ∧ Drawn0 w w' := by
  go_enter Tryd.func38, Tryd.ntmps38
  go_wp2_with fail
  refine (asked_nil _ _ _).mono ?_
  rintro e w1 ⟨rfl, d1⟩
  go_wp2_with fail
  go_ret2
  exact ⟨rfl, d1⟩

set_option maxRecDepth 100000 in
theorem watch_nil (w : World) (p : Int) : Calls Tryd.prog 13 #[.pointer none, .int .i64 p] w fun e w' => e = .returned (.int .i64 2) ∧ Drawn0 w w' := by
  go_enter Tryd.func13, Tryd.ntmps13
  go_wp2
  go_ret
  exact ⟨rfl, Drawn0.refl _⟩

set_option maxRecDepth 100000 in
theorem bytes_nil (w : World) : Calls Tryd.prog 55 #[.pointer none] w fun e w' => e = .returned (.slice none 0 0) ∧ Drawn0 w w' := by
  go_enter Tryd.func55, Tryd.ntmps55
  go_wp2
  go_ret
  exact ⟨rfl, Drawn0.refl _⟩

set_option maxRecDepth 100000 in
theorem rhasp_nil (w : World) (p : Int) : Calls Tryd.prog 36 #[.pointer none, .int .i64 p] w fun e w' => e = .returned (.bool false) ∧ Drawn0 w w' := by
  go_enter Tryd.func36, Tryd.ntmps36
  go_wp2
  go_ret
  exact ⟨rfl, Drawn0.refl _⟩

set_option maxRecDepth 100000 in
theorem watched_nil (w : World) (p : Int) : Calls Tryd.prog 16 #[.pointer none, .int .i64 p] w fun e w' => e = .returned (.bool false) ∧ Drawn0 w w' := by
  go_enter Tryd.func16, Tryd.ntmps16
  go_wp2_with fail
  refine (rhasp_nil _ _).mono ?_
  rintro e w1 ⟨rfl, d1⟩
  go_wp2_with fail
  go_ret
  exact ⟨rfl, d1⟩

/-- Why bytes may not be loaded, or stored. -/
def rasked (n : Nat) (a m : Int) : Int := if m = 1 ∨ m = 2 ∨ m = 4 then (if a % m = 0 then (if rhas n a m = true then 0 else 6) else 5) else 2

set_option maxRecDepth 100000 in
theorem asked_shape (w : World) (R : Nat) (a m : Int) (hm : ((m != 1) && (m != 2) && (m != 4)) = true) : Calls Tryd.prog 58 #[.pointer (some ⟨R, 0, none⟩), .int .u32 a, .int .i64 m] w fun e w' => e = .returned (.int .i64 2) ∧ Drawn0 w w' := by
  go_enter Tryd.func58, Tryd.ntmps58
  go_wp2_with fail
  all_goals first | (go_ret; exact ⟨rfl, Drawn0.refl _⟩) | (exfalso; simp_all; done)

set_option maxRecDepth 100000 in
theorem asked_has (w : World) {R BB BW BG n k : Nat} {l : List Int} {ws : List Bool} {gs : List Int} (a m : Int) (h : IsRam w R BB BW BG n k l ws gs) (hn : n ≤ 65536) (a0 : 0 ≤ a) (a1 : a < 4294967296) (hm : m = 1 ∨ m = 2 ∨ m = 4) : Calls Tryd.prog 58 #[.pointer (some ⟨R, 0, none⟩), .int .u32 a, .int .i64 m] w fun e w' => e = .returned (.int .i64 (rasked n a m)) ∧ Drawn0 w w' := by
  have HH := Aside0.mk (has_calls w a m h hn a0 a1)
  obtain ⟨r, hr⟩ : ∃ r, rhas n a m = r := ⟨_, rfl⟩
  obtain ⟨q, hq⟩ : ∃ q, rasked n a m = q := ⟨_, rfl⟩
  rw [hr] at HH
  rw [hq]
  have hq' := hq
  unfold rasked at hq'
  rw [if_pos hm, hr] at hq'
  clear h hr hq
  by_cases ho : a % m = 0
  · rw [if_pos ho] at hq'
    rcases hm with rfl | rfl | rfl
    all_goals
      cases r
      all_goals
        simp at hq'
        subst hq'
        go_enter Tryd.func58, Tryd.ntmps58
        go_wp2_with fail
        refine HH.out.mono ?_
        rintro e w1 ⟨rfl, d1⟩
        go_wp2_with fail
        go_ret
        exact ⟨rfl, d1⟩
  · rw [if_neg ho] at hq'
    subst hq'
    rcases hm with rfl | rfl | rfl
    · exfalso; omega
    · have ho' : (a % 2 != 0) = true := by simpa using ho
      clear ho
      go_enter Tryd.func58, Tryd.ntmps58
      go_wp2_with fail
      go_ret
      exact ⟨rfl, Drawn0.refl _⟩
    · have ho' : (a % 4 != 0) = true := by simpa using ho
      clear ho
      go_enter Tryd.func58, Tryd.ntmps58
      go_wp2_with fail
      go_ret
      exact ⟨rfl, Drawn0.refl _⟩

theorem asked_calls (w : World) {R BB BW BG n k : Nat} {l : List Int} {ws : List Bool} {gs : List Int} (a m : Int) (h : IsRam w R BB BW BG n k l ws gs) (hn : n ≤ 65536) (a0 : 0 ≤ a) (a1 : a < 4294967296) : Calls Tryd.prog 58 #[.pointer (some ⟨R, 0, none⟩), .int .u32 a, .int .i64 m] w fun e w' => e = .returned (.int .i64 (rasked n a m)) ∧ Drawn0 w w' := by
  by_cases hm : m = 1 ∨ m = 2 ∨ m = 4
  · exact asked_has w a m h hn a0 a1 hm
  · rw [show rasked n a m = 2 by unfold rasked; rw [if_neg hm]]
    exact asked_shape w R a m (by simp; omega)

end Go.Proofs.YtdalboofhckobaaDoor

namespace Go.Proofs.YtdalboofhckobaaDoor
open Go Go.RowKit Go.Proofs.YtdalboofhckobaaDoorW.PrintWords
set_option linter.unusedVariables false
set_option linter.unusedSimpArgs false

/-- A row put into a block: the block's cells behind it. -/
def putAt (a : Array Value) : Nat → List Value → Array Value
  | _, [] => a
  | o, v :: vs => putAt (a.setIfInBounds o v) (o + 1) vs
theorem blk_setCells {B : Nat} {t : TypeId} : ∀ (vs : List Value) (o : Nat) (w : World) (a : Array Value), w.heap[B]? = some (.cells a t) → (w.setCells B o vs).heap[B]? = some (.cells (putAt a o vs) t)
  | [], _, _, _, h => h
  | v :: vs, o, w, a, h => blk_setCells vs (o + 1) _ _ (blk_set h o v)
theorem only_setCells {B : Nat} : ∀ (vs : List Value) (o : Nat) (w : World), Only B w (w.setCells B o vs)
  | [], _, w => Only.refl B w
  | v :: vs, o, w => ((Only.refl B w).setCell o v).trans (only_setCells vs (o + 1) _)
theorem putAt_list : ∀ (vs : List Value) (o : Nat) (a : Array Value), o + vs.length ≤ a.size → (putAt a o vs).toList = a.toList.take o ++ vs ++ a.toList.drop (o + vs.length)
  | [], o, a, h => by simp [putAt]
  | v :: vs, o, a, h => by
    have h' : o < a.size := by simp at h; omega
    rw [putAt, putAt_list vs (o + 1) _ (by simp at h ⊢; omega)]
    simp only [Array.toList_setIfInBounds, List.length_cons]
    have hl : a.toList.length = a.size := Array.length_toList
    rw [List.set_eq_take_append_cons_drop, if_pos (by rw [hl]; exact h')]
    have e1 : (a.toList.take o).length = o := by rw [List.length_take, hl]; omega
    have e2 : (a.toList.take o ++ v :: a.toList.drop (o + 1)).take (o + 1) = a.toList.take o ++ [v] := by
      rw [List.take_append, e1, List.take_of_length_le (by omega), show o + 1 - o = 1 by omega]; rfl
    have e3 : (a.toList.take o ++ v :: a.toList.drop (o + 1)).drop (o + 1 + vs.length) = a.toList.drop (o + (vs.length + 1)) := by
      rw [List.drop_append, e1, List.drop_of_length_le (by omega), show o + 1 + vs.length - o = vs.length + 1 by omega, List.drop_succ_cons, List.drop_drop, List.nil_append]
      congr 1
      omega
    rw [e2, e3]
    simp
/-- Bytes put over bytes. -/
theorem brow_put (l bs : List Int) (j : Nat) (h : j + bs.length ≤ l.length) : putAt (brow l) j (bs.map (Value.int .u8)) = brow (l.take j ++ bs ++ l.drop (j + bs.length)) := by
  apply Array.toList_inj.1
  rw [putAt_list _ _ _ (by simp [brow]; exact h)]
  simp [brow, List.map_take, List.map_drop]
theorem brow_size (l : List Int) : (brow l).size = l.length := by simp [brow]
theorem brow_get (l : List Int) (j : Nat) : (brow l)[j]? = (l.map (Value.int .u8))[j]? := by simp [brow]
theorem brow_some (l : List Int) (j : Nat) (h : j < l.length) : ((brow l)[j]?).isSome = true := by simp [brow, h]

set_option maxRecDepth 100000 in
theorem bytes_calls (w : World) {R BB BW BG n k : Nat} {l : List Int} {ws : List Bool} {gs : List Int} (h : IsRam w R BB BW BG n k l ws gs) (hn : n ≤ 65536) : Calls Tryd.prog 55 #[.pointer (some ⟨R, 0, none⟩)] w fun e w' => e = .returned (.slice (some ⟨w.heap.size, 0, none⟩) n n) ∧ w'.heap[w.heap.size]? = some (.cells (brow l) 5) ∧ Below w.heap.size w w' := by
  have c0 := h.c0
  have m1 : ∀ w : World, (Instr.makeSlice 29 (.int .i64 (n : Int)) (.int .i64 (n : Int))).run Tryd.prog w = .ok (.slice (some ⟨w.heap.size, 0, none⟩) n n) (w.alloc (.cells (brow (List.replicate n 0)) 5)) := by
    intro w
    obtain ⟨i, hi, hz⟩ := Option.map_eq_some_iff.1 (show (Tryd.prog.info? 5).map (fun i => (i.zero, i.size, i.bytes)) = some (some (.int .u8 0), 1, 1) by kernel_rfl)
    simp only [Prod.mk.injEq] at hz
    obtain ⟨hz0, hz1, hz2⟩ := hz
    have h := run_make (P := Tryd.prog) w 29 5 i (.int .u8 0) Tryd.underlying29 hi hz0 .i64 .i64 (n : Int) (n : Int) (by omega) (by omega) (by rw [hz2]; omega) (by omega)
    rw [hz1] at h
    rw [show (Value.int .u8 0).cells = #[Value.int .u8 0] from rfl, made1, brow_made] at h
    simpa using h
  have hB := below_alloc (Below.refl w.heap.size w) (.cells (brow (List.replicate n 0)) 5)
  have c1 := (h.below hB).c0
  have hb := blk_below h.b hB
  have hnw := blk_new w (.cells (brow (List.replicate n 0)) 5)
  have cp : ∀ ty, (Builtin.copy_ #[29, 29] ty #[.slice (some ⟨w.heap.size, 0, none⟩) n n, .slice (some ⟨BB, 0, none⟩) n n]).run Tryd.prog (w.alloc (.cells (brow (List.replicate n 0)) 5)) = .ok (goInt n) ((w.alloc (.cells (brow (List.replicate n 0)) 5)).setCells w.heap.size 0 (l.map (Value.int .u8))) := by
    intro ty
    have := run_copy_cells (P := Tryd.prog) (w.alloc (.cells (brow (List.replicate n 0)) 5)) 29 29 ty 5 w.heap.size 0 n n ⟨BB, 0, none⟩ n n (l.map (Value.int .u8)) Tryd.underlying29 (by kernel_rfl) (by simp [h.nl]) (fun j v hj => ?_) (fun j hj => ?_) (fun j hj => ?_) (fun v hv => ?_)
    · simpa [h.nl] using this
    · rw [show (⟨BB, 0, none⟩ : Addr).add j = ⟨BB, j, none⟩ by simp [Addr.add]; omega, blk_cell hb j, brow_get]
      exact hj
    · rw [blk_cell hnw (0 + j)]
      exact brow_some _ _ (by simp [h.nl] at hj ⊢; omega)
    · exact blk_frozen hnw _
    · obtain ⟨x, _, rfl⟩ := List.mem_map.1 hv
      rfl
  go_enter Tryd.func55, Tryd.ntmps55
  go_wp2
  go_ret
  refine ⟨rfl, ?_, ?_⟩
  · have := blk_setCells (l.map (Value.int .u8)) 0 _ _ hnw
    rw [brow_put _ _ _ (by simp [h.nl])] at this
    simpa [h.nl] using this
  · exact (only_setCells _ _ _).below (Nat.le_refl _) hB

end Go.Proofs.YtdalboofhckobaaDoor

namespace Go.Proofs.YtdalboofhckobaaDoor
open Go Go.RowKit Go.Proofs.YtdalboofhckobaaDoorW.PrintWords
set_option linter.unusedVariables false
set_option linter.unusedSimpArgs false

theorem drawn_trans {a b c : World} (h : Drawn0 a b) (k : Drawn0 b c) : Drawn0 a c := by
  obtain ⟨⟨n, rfl⟩⟩ := k
  exact h.step n
theorem addr_add (B j i : Nat) : (⟨B, j, none⟩ : Addr).add i = ⟨B, j + i, none⟩ := by
  simp [Addr.add]; try omega
/-- A part of a row of bytes, as it is read. -/
theorem brow_C {w : World} {BB : Nat} {l : List Int} (h : w.heap[BB]? = some (.cells (brow l) 5)) (j m : Nat) (hm : j + m ≤ l.length) (hl : l.length ≤ 65536) : (Kd.int .u8).C w (some ⟨BB, j, none⟩) m ((l.drop j).take m) := by
  refine ⟨by simp; omega, by omega, fun _ => ⟨_, rfl, fun i p hp => ⟨[.int .u8 p], rfl, rfl, fun i' u hu => ?_⟩⟩⟩
  have hi : i' = 0 ∧ u = .int .u8 p := by
    cases i' with
    | zero => simp at hu; exact ⟨rfl, hu.symm⟩
    | succ q => simp at hu
  obtain ⟨rfl, rfl⟩ := hi
  rw [addr_add, blk_cell h, brow_get]
  have : (l.drop j)[i]? = some p := by
    rw [List.getElem?_take] at hp
    split at hp
    · exact hp
    · cases hp
  rw [List.getElem?_drop] at this
  show (l.map (Value.int .u8))[j + (i * 1 + 0)]? = _
  rw [List.getElem?_map, show j + (i * 1 + 0) = j + i by omega, this]
  rfl

set_option maxRecDepth 100000 in
theorem at_calls (w : World) {R BB BW BG n k : Nat} {l : List Int} {ws : List Bool} {gs : List Int} (a : Int) (j m : Nat) (h : IsRam w R BB BW BG n k l ws gs) (hn : n ≤ 65536) (ha : 2147483648 ≤ a) (hj : a - 2147483648 = j) (hm : j + m ≤ n) (m0 : 0 < m) : Calls Tryd.prog 60 #[.pointer (some ⟨R, 0, none⟩), .int .u32 a, .int .i64 m] w fun e w' => e = .returned (.slice (some ⟨BB, j, none⟩) m m) ∧ Drawn0 w w' := by
  have c0 := h.c0
  clear h
  have w1 : wrap64 ((j : Int) + m) = ((j + m : Nat) : Int) := by simp [wrap64, IntKind.wrap, IntKind.bits, IntKind.signed]; omega
  have w2 : IntKind.u32.wrap (a - 2147483648) = j := by simp [IntKind.wrap, IntKind.bits, IntKind.signed]; omega
  go_enter Tryd.func60, Tryd.ntmps60
  go_wp2
  all_goals first
    | (exfalso; omega)
    | (have e9 : j + m - j = m := by omega
       simp only [e9]
       go_ret
       exact ⟨rfl, Drawn0.refl _⟩)
    | (go_ret; exact ⟨rfl, Drawn0.refl _⟩)

set_option maxRecDepth 100000 in
theorem load_no (w : World) {R BB BW BG n k : Nat} {l : List Int} {ws : List Bool} {gs : List Int} (a m e0 : Int) (h : IsRam w R BB BW BG n k l ws gs) (hn : n ≤ 65536) (a0 : 0 ≤ a) (a1 : a < 4294967296) (he : rasked n a m = e0) (hz : (e0 != 0) = true) : Calls Tryd.prog 41 #[.pointer (some ⟨R, 0, none⟩), .int .u32 a, .int .i64 m] w fun e w' => e = .returned (.tuple #[.int .u32 0, .int .i64 e0]) ∧ Drawn0 w w' := by
  have HH := Aside0.mk (asked_calls w a m h hn a0 a1)
  rw [he] at HH
  clear h he
  go_enter Tryd.func41, Tryd.ntmps41
  go_wp2_with fail
  refine HH.out.mono ?_
  rintro e w1 ⟨rfl, d1⟩
  go_wp2_with fail
  go_ret2
  exact ⟨rfl, d1⟩

open Go.Proofs.YtdalboofhckobaaDoor.QBusPlays in
set_option maxRecDepth 100000 in
theorem load_yes (w : World) {R BB BW BG n k K : Nat} {l : List Int} {ws : List Bool} {gs : List Int} (a : Int) (j m : Nat) (r e0 : Int) (h : IsRam w R BB BW BG n k l ws gs) (hn : n ≤ 65536) (a0 : 2147483648 ≤ a) (a1 : a < 4294967296) (he : rasked n a m = 0) (hj : a - 2147483648 = j) (hm : j + m ≤ n) (m0 : 0 < m) (hN : word_Number.f K ((l.drop j).take m) = some (r, e0)) : Calls Tryd.prog 41 #[.pointer (some ⟨R, 0, none⟩), .int .u32 a, .int .i64 m] w fun e w' => e = .returned (.tuple #[.int .u32 r, .int .i64 e0]) ∧ Drawn0 w w' := by
  have HH := Aside0.mk (asked_calls w a m h hn (by omega) a1)
  rw [he] at HH
  have H := Aside0.mk h
  have HN := Aside0.mk hN
  have hlen : ((l.drop j).take m).length = m := by simp; have := h.nl; omega
  clear h he hN
  go_enter Tryd.func41, Tryd.ntmps41
  go_wp2_with fail
  refine HH.out.mono ?_
  rintro e w1 ⟨rfl, d1⟩
  have H1 := Aside0.mk (H.out.drawn d1)
  have D1 := Aside0.mk d1
  clear d1
  go_wp2_with fail
  refine (at_calls _ a j m H1.out hn a0 hj hm m0).mono ?_
  rintro e w2 ⟨rfl, d2⟩
  have H2 := Aside0.mk (H1.out.drawn d2)
  have D2 := Aside0.mk (drawn_trans D1.out d2)
  have NC := word_Number.calls K (some ⟨BB, j, none⟩) m _ r e0 w2 (by rw [hlen]; exact brow_C H2.out.b j m (by rw [H2.out.nl]; exact hm) (by rw [H2.out.nl]; exact hn)) (by rw [hlen]; exact Nat.le_refl _) HN.out
  rw [hlen] at NC
  have N := Aside0.mk NC
  clear d2 NC
  go_wp2_with fail
  refine N.out.mono ?_
  rintro e w3 ⟨rfl, d3⟩
  have D3 := Aside0.mk (drawn_trans D2.out d3)
  clear d3
  go_wp2_with fail
  go_ret2
  exact ⟨rfl, D3.out⟩

end Go.Proofs.YtdalboofhckobaaDoor

namespace Go.Proofs.YtdalboofhckobaaDoor
open Go Go.RowKit Go.Proofs.YtdalboofhckobaaDoorW.PrintWords
set_option linter.unusedVariables false
set_option linter.unusedSimpArgs false

/-- Writes to some blocks alone (those that P holds of), and new blocks. -/
structure OnlyP (P : Nat → Prop) (w w' : World) : Prop where
  os : w'.os = w.os
  tape : w'.tape = w.tape
  output : w'.output = w.output
  size : w.heap.size ≤ w'.heap.size
  block : ∀ k, k < w.heap.size → ¬ P k → w'.heap[k]? = w.heap[k]?
theorem OnlyP.refl (P : Nat → Prop) (w : World) : OnlyP P w w := ⟨rfl, rfl, rfl, Nat.le_refl _, fun _ _ _ => rfl⟩
theorem OnlyP.trans {P : Nat → Prop} {a b c : World} (h : OnlyP P a b) (k : OnlyP P b c) : OnlyP P a c :=
  ⟨k.os.trans h.os, k.tape.trans h.tape, k.output.trans h.output, Nat.le_trans h.size k.size, fun i hi hn => (k.block i (Nat.lt_of_lt_of_le hi h.size) hn).trans (h.block i hi hn)⟩
theorem OnlyP.of_below {P : Nat → Prop} {w w' : World} (h : Below w.heap.size w w') : OnlyP P w w' := ⟨h.os, h.tape, h.output, h.size, fun k hk _ => h.block k hk⟩
theorem OnlyP.of_only {P : Nat → Prop} {B : Nat} {w w' : World} (h : Only B w w') (hB : P B) : OnlyP P w w' := ⟨h.os, h.tape, h.output, h.size, fun k hk hn => h.block k hk (fun e => hn (e ▸ hB))⟩
theorem OnlyP.drawn {P : Nat → Prop} {a w w' : World} (h : OnlyP P a w) (d : Drawn0 w w') : OnlyP P a w' := h.trans (.of_below d.below)
theorem OnlyP.below {P : Nat → Prop} {W w w' : World} (h : OnlyP P w w') (hP : ∀ k, P k → W.heap.size ≤ k) (hb : Below W.heap.size W w) : Below W.heap.size W w' :=
  hb.trans ⟨h.os, h.tape, h.output, h.size, fun k hk => h.block k (Nat.lt_of_lt_of_le hk hb.size) (fun hp => by have := hP k hp; omega)⟩
theorem frow_set (ws : List Bool) (p : Nat) (b : Bool) : (frow ws).setIfInBounds p (.bool b) = frow (ws.set p b) := by
  apply Array.toList_inj.1; simp [frow, List.map_set]
theorem grow_set (gs : List Int) (p : Nat) (b : Int) : (grow gs).setIfInBounds p (.int .u64 b) = grow (gs.set p b) := by
  apply Array.toList_inj.1; simp [grow, List.map_set]
section
variable {w : World} {R BB BW BG n k : Nat} {l : List Int} {ws : List Bool} {gs : List Int}
theorem IsRam.put (h : IsRam w R BB BW BG n k l ws gs) (bs : List Int) (j : Nat) (hj : j + bs.length ≤ n) : IsRam (w.setCells BB j (bs.map (Value.int .u8))) R BB BW BG n k (l.take j ++ bs ++ l.drop (j + bs.length)) ws gs := by
  have o := only_setCells (B := BB) (bs.map (Value.int .u8)) j w
  refine ⟨blk_only h.r o h.rb, ?_, blk_only h.f o (Ne.symm h.bf), blk_only h.g o (Ne.symm h.bg), ?_, h.nw, h.ng, h.rb, h.rf, h.rg, h.bf, h.bg, h.fg⟩
  · have := blk_setCells (bs.map (Value.int .u8)) j w _ h.b
    rwa [brow_put _ _ _ (by rw [h.nl]; exact hj)] at this
  · have := h.nl
    simp; omega
theorem IsRam.setF (h : IsRam w R BB BW BG n k l ws gs) (p : Nat) (b : Bool) : IsRam (w.setCell ⟨BW, p, none⟩ (.bool b)) R BB BW BG n k l (ws.set p b) gs := by
  have o := (Only.refl BW w).setCell p (.bool b)
  refine ⟨blk_only h.r o h.rf, blk_only h.b o h.bf, ?_, blk_only h.g o (Ne.symm h.fg), h.nl, by rw [List.length_set]; exact h.nw, h.ng, h.rb, h.rf, h.rg, h.bf, h.bg, h.fg⟩
  have := blk_set h.f p (.bool b)
  rwa [frow_set] at this
theorem IsRam.setG (h : IsRam w R BB BW BG n k l ws gs) (p : Nat) (b : Int) : IsRam (w.setCell ⟨BG, p, none⟩ (.int .u64 b)) R BB BW BG n k l ws (gs.set p b) := by
  have o := (Only.refl BG w).setCell p (.int .u64 b)
  refine ⟨blk_only h.r o h.rg, blk_only h.b o h.bg, blk_only h.f o h.fg, ?_, h.nl, h.nw, by rw [List.length_set]; exact h.ng, h.rb, h.rf, h.rg, h.bf, h.bg, h.fg⟩
  have := blk_set h.g p (.int .u64 b)
  rwa [grow_set] at this
theorem IsRam.cf (h : IsRam w R BB BW BG n k l ws gs) (p : Nat) {b : Bool} (hp : ws[p]? = some b) : w.cell? ⟨BW, p, none⟩ = some (.bool b) := by
  rw [blk_cell h.f p]; simp [frow, hp]
theorem IsRam.cg (h : IsRam w R BB BW BG n k l ws gs) (p : Nat) {b : Int} (hp : gs[p]? = some b) : w.cell? ⟨BG, p, none⟩ = some (.int .u64 b) := by
  rw [blk_cell h.g p]; simp [grow, hp]
end

set_option maxRecDepth 100000 in
theorem store_no (w : World) {R BB BW BG n k : Nat} {l : List Int} {ws : List Bool} {gs : List Int} (a m x e0 : Int) (h : IsRam w R BB BW BG n k l ws gs) (hn : n ≤ 65536) (a0 : 0 ≤ a) (a1 : a < 4294967296) (he : rasked n a m = e0) (hz : (e0 != 0) = true) : Calls Tryd.prog 38 #[.pointer (some ⟨R, 0, none⟩), .int .u32 a, .int .i64 m, .int .u32 x] w fun e w' => e = .returned (.tuple #[.bool false, .int .i64 e0]) ∧ Drawn0 w w' := by
  have HH := Aside0.mk (asked_calls w a m h hn a0 a1)
  rw [he] at HH
  clear h he
  go_enter Tryd.func38, Tryd.ntmps38
  go_wp2_with fail
  refine HH.out.mono ?_
  rintro e w1 ⟨rfl, d1⟩
  go_wp2_with fail
  go_ret2
  exact ⟨rfl, d1⟩

open Go.Proofs.YtdalboofhckobaaDoor.QBusPlays in
set_option maxRecDepth 100000 in
theorem store_yes (w : World) {R BB BW BG n k K : Nat} {l : List Int} {ws : List Bool} {gs : List Int} (a x : Int) (j m p : Nat) (bs : List Int) (e0 : Int) (g : Int) (hit : Bool) (h : IsRam w R BB BW BG n k l ws gs) (hn : n ≤ 65536) (a0 : 2147483648 ≤ a) (a1 : a < 4294967296) (he : rasked n a m = 0) (hj : a - 2147483648 = j) (hm : j + m ≤ n) (m0 : 0 < m) (hp : rpage n a = (p : Int)) (hk : p < k) (hh : ws[p]? = some hit) (hl : bs.length = m) (hg : gs[p]? = some g) (hN : word_Bytes.f K x m = some (bs, e0)) : Calls Tryd.prog 38 #[.pointer (some ⟨R, 0, none⟩), .int .u32 a, .int .i64 m, .int .u32 x] w fun e w' => e = .returned (.tuple #[.bool hit, .int .i64 0]) ∧ IsRam w' R BB BW BG n k (l.take j ++ bs ++ l.drop (j + m)) (if hit = true then ws.set p false else ws) (if hit = true then gs.set p (IntKind.u64.wrap (g + 1)) else gs) ∧ OnlyP (fun b => b = BB ∨ b = BW ∨ b = BG) w w' := by
  obtain ⟨L', hL⟩ : ∃ L', l.take j ++ bs ++ l.drop (j + m) = L' := ⟨_, rfl⟩
  obtain ⟨g', hg'⟩ : ∃ g', IntKind.u64.wrap (g + 1) = g' := ⟨_, rfl⟩
  rw [hL, hg']
  have HL := Aside0.mk hL
  clear hL
  have HH := Aside0.mk (asked_calls w a m h hn (by omega) a1)
  rw [he] at HH
  have H := Aside0.mk h
  have HN := Aside0.mk hN
  clear h he hN
  go_enter Tryd.func38, Tryd.ntmps38
  go_wp2_with fail
  refine HH.out.mono ?_
  rintro e w1 ⟨rfl, d1⟩
  have H1 := Aside0.mk (H.out.drawn d1)
  have D1 := Aside0.mk d1
  clear d1
  go_wp2_with fail
  refine (word_Bytes.calls K x m bs e0 _ HN.out).mono ?_
  rintro e w2 ⟨v0, rfl, hR, hb⟩
  obtain ⟨A, c, rfl, hc, hC⟩ := Kd.R_reads hR
  obtain ⟨_, _, had⟩ := hC
  obtain ⟨ad, rfl, hcells⟩ := had (by omega)
  rw [hl] at hc ⊢
  have H2 := Aside0.mk (H1.out.below hb)
  have B2 := Aside0.mk (below_on D1.out.below hb)
  have HC := Aside0.mk hcells
  clear hb hR D1 H1
  go_wp2_with fail
  refine (at_calls _ a j m H2.out hn a0 hj hm m0).mono ?_
  rintro e w3 ⟨rfl, d3⟩
  have H3 := Aside0.mk (H2.out.drawn d3)
  have B3 := Aside0.mk (below_on B2.out d3.below)
  have cp : ∀ ty, (Builtin.copy_ #[29, 29] ty #[.slice (some ⟨BB, j, none⟩) m m, .slice (some ad) m c]).run Tryd.prog w3 = .ok (goInt m) (w3.setCells BB j (bs.map (Value.int .u8))) := by
    intro ty
    have := run_copy_cells (P := Tryd.prog) w3 29 29 ty 5 BB j m m ad m c (bs.map (Value.int .u8)) Tryd.underlying29 (by kernel_rfl) (by simp [hl]) (fun i v hi => ?_) (fun i hi => ?_) (fun i hi => ?_) (fun v hv => ?_)
    · simpa [hl] using this
    · rw [List.getElem?_map] at hi
      obtain ⟨q, hq, rfl⟩ := Option.map_eq_some_iff.1 hi
      obtain ⟨cs, hlen, hK, hcs⟩ := HC.out i q hq
      have hK' : cs = [Value.int .u8 q] := hK
      subst hK'
      have := hcs 0 _ rfl
      rw [show i * (Kd.int .u8).sz + 0 = i from Nat.mul_one i] at this
      exact pw_cell_below d3.below this
    · rw [blk_cell H3.out.b (j + i)]
      exact brow_some _ _ (by have := H3.out.nl; simp [hl] at hi; omega)
    · exact blk_frozen H3.out.b _
    · obtain ⟨q, _, rfl⟩ := List.mem_map.1 hv
      rfl
  have H4 := Aside0.mk (H3.out.put bs j (by omega))
  have O4 := Aside0.mk ((OnlyP.of_below (P := fun b => b = BB ∨ b = BW ∨ b = BG) B3.out).trans (.of_only (only_setCells (B := BB) (bs.map (Value.int .u8)) j w3) (.inl rfl)))
  clear d3 B3 H3 B2 H2 HC
  go_wp2_with fail
  have PG := page_calls _ a H4.out hn (by omega) a1
  rw [hp] at PG
  rw [hl, HL.out] at H4
  refine PG.mono ?_
  clear PG
  rintro e w5 ⟨rfl, d5⟩
  have H5 := Aside0.mk (H4.out.drawn d5)
  have O5 := Aside0.mk (O4.out.drawn d5)
  have c1 := H5.out.c1
  have cf := H5.out.cf p hh
  clear d5 H4 O4 cp
  cases hit
  · go_wp2_with fail
    go_ret2
    exact ⟨rfl, H5.out, O5.out⟩
  · have zf := blk_frozen H5.out.f p
    have H6 := Aside0.mk (H5.out.setF p false)
    have c2 := H6.out.c2
    have cg := H6.out.cg p hg
    have zg := blk_frozen H6.out.g p
    have c1' := H6.out.c1
    have O6 := Aside0.mk (O5.out.trans (.of_only ((Only.refl BW _).setCell p (.bool false)) (.inr (.inl rfl))))
    have H7 := Aside0.mk (H6.out.setG p g')
    have O7 := Aside0.mk (O6.out.trans (.of_only ((Only.refl BG _).setCell p (.int .u64 g')) (.inr (.inr rfl))))
    go_wp2_with fail
    go_ret2
    exact ⟨rfl, H7.out, O7.out⟩

end Go.Proofs.YtdalboofhckobaaDoor
