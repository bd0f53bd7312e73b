/- The memory's pages: Watch, Watched. -/
import Derived.Test.YtfnbpmkbjbibkaaOnly
import Derived.Test.YtfnbpmkbjbibkaaQCpuSamex
import Derived.Test.YtfnbpmkbjbibkaaProg
import Derived.WalkKit
import Derived.RegionTactic
import Derived.Deep.QuietTactic
import Derived.BigQuiet
import Derived.Deep.RegionWith
import Derived.Laws.MakeOwn
import Derived.Laws.IdiomCopy
namespace Go.Proofs.Ytfnbpmkbjbibkaa
open Go Go.RowKit Go.Proofs.YtfnbpmkbjbibkaaW.PrintWords
set_option linter.unusedVariables false
set_option linter.unusedSimpArgs false

theorem made1 (z : Value) (n : Nat) : madeCells #[z] n = Array.replicate n z := by
  unfold madeCells
  apply Array.ext
  · simp
  · intro i h1 h2
    simp [Nat.mod_one]


/-- Rows of bytes, of marks, of numbers. -/
def brow (l : List Int) : Array Value := (l.map (Value.int .u8)).toArray
def frow (l : List Bool) : Array Value := (l.map Value.bool).toArray
def grow (l : List Int) : Array Value := (l.map (Value.int .u64)).toArray
theorem brow_made (n : Nat) : Array.replicate n (Value.int .u8 0) = brow (List.replicate n 0) := by simp [brow]
theorem frow_made (n : Nat) : Array.replicate n (Value.bool false) = frow (List.replicate n false) := by simp [frow]
theorem grow_made (n : Nat) : Array.replicate n (Value.int .u64 0) = grow (List.replicate n 0) := by simp [grow]

/-- Block R is a memory: its bytes, marks and generations lie in blocks of their own. -/
structure IsRam (w : World) (R BB BW BG n k : Nat) (l : List Int) (ws : List Bool) (gs : List Int) : Prop where
  r : w.heap[R]? = some (.cells #[.slice (some ⟨BB, 0, none⟩) n n, .slice (some ⟨BW, 0, none⟩) k k, .slice (some ⟨BG, 0, none⟩) k k] 137)
  b : w.heap[BB]? = some (.cells (brow l) 5)
  f : w.heap[BW]? = some (.cells (frow ws) 4)
  g : w.heap[BG]? = some (.cells (grow gs) 28)
  nl : l.length = n
  nw : ws.length = k
  ng : gs.length = k
  rb : R ≠ BB
  rf : R ≠ BW
  rg : R ≠ BG
  bf : BB ≠ BW
  bg : BB ≠ BG
  fg : BW ≠ BG
theorem IsRam.below {w w' : World} {R BB BW BG n k : Nat} {l : List Int} {ws : List Bool} {gs : List Int} (h : IsRam w R BB BW BG n k l ws gs) (q : Below w.heap.size w w') : IsRam w' R BB BW BG n k l ws gs :=
  ⟨blk_below h.r q, blk_below h.b q, blk_below h.f q, blk_below h.g q, h.nl, h.nw, h.ng, h.rb, h.rf, h.rg, h.bf, h.bg, h.fg⟩
theorem IsRam.drawn {w w' : World} {R BB BW BG n k : Nat} {l : List Int} {ws : List Bool} {gs : List Int} (h : IsRam w R BB BW BG n k l ws gs) (q : Drawn0 w w') : IsRam w' R BB BW BG n k l ws gs := by
  obtain ⟨⟨m, rfl⟩⟩ := q; exact ⟨h.r, h.b, h.f, h.g, h.nl, h.nw, h.ng, h.rb, h.rf, h.rg, h.bf, h.bg, h.fg⟩
theorem IsRam.drewN {w : World} {R BB BW BG n k : Nat} {l : List Int} {ws : List Bool} {gs : List Int} (m : Nat) (h : IsRam w R BB BW BG n k l ws gs) : IsRam (w.drewN m) R BB BW BG n k l ws gs := ⟨h.r, h.b, h.f, h.g, h.nl, h.nw, h.ng, h.rb, h.rf, h.rg, h.bf, h.bg, h.fg⟩
theorem IsRam.c0 {w : World} {R BB BW BG n k : Nat} {l : List Int} {ws : List Bool} {gs : List Int} (h : IsRam w R BB BW BG n k l ws gs) : w.cell? ⟨R, 0, none⟩ = some (.slice (some ⟨BB, 0, none⟩) n n) := (blk_cell h.r 0).trans rfl
theorem IsRam.c1 {w : World} {R BB BW BG n k : Nat} {l : List Int} {ws : List Bool} {gs : List Int} (h : IsRam w R BB BW BG n k l ws gs) : w.cell? ⟨R, 1, none⟩ = some (.slice (some ⟨BW, 0, none⟩) k k) := (blk_cell h.r 1).trans rfl
theorem IsRam.c2 {w : World} {R BB BW BG n k : Nat} {l : List Int} {ws : List Bool} {gs : List Int} (h : IsRam w R BB BW BG n k l ws gs) : w.cell? ⟨R, 2, none⟩ = some (.slice (some ⟨BG, 0, none⟩) k k) := (blk_cell h.r 2).trans rfl

theorem alloc4 (w : World) (a b c d : Obj) : ((((w.alloc a).alloc b).alloc c).alloc d).heap[w.heap.size]? = some a ∧ ((((w.alloc a).alloc b).alloc c).alloc d).heap[w.heap.size + 1]? = some b ∧ ((((w.alloc a).alloc b).alloc c).alloc d).heap[w.heap.size + 1 + 1]? = some c ∧ ((((w.alloc a).alloc b).alloc c).alloc d).heap[w.heap.size + 1 + 1 + 1]? = some d ∧ Below w.heap.size w ((((w.alloc a).alloc b).alloc c).alloc d) := by
  have s1 : (w.alloc a).heap.size = w.heap.size + 1 := Array.size_push _
  have s2 : ((w.alloc a).alloc b).heap.size = w.heap.size + 1 + 1 := by rw [← s1]; exact Array.size_push _
  have s3 : (((w.alloc a).alloc b).alloc c).heap.size = w.heap.size + 1 + 1 + 1 := by rw [← s2]; exact Array.size_push _
  have B1 := below_alloc (Below.refl (w.alloc a).heap.size (w.alloc a)) b
  have B2 := below_alloc (Below.refl ((w.alloc a).alloc b).heap.size ((w.alloc a).alloc b)) c
  have B3 := below_alloc (Below.refl (((w.alloc a).alloc b).alloc c).heap.size (((w.alloc a).alloc b).alloc c)) d
  refine ⟨blk_below (blk_below (blk_below (blk_new w a) B1) B2) B3, ?_, ?_, ?_, below_alloc (below_alloc (below_alloc (below_alloc (Below.refl _ _) a) b) c) d⟩
  · have h := blk_below (blk_below (blk_new (w.alloc a) b) B2) B3
    rwa [s1] at h
  · have h := blk_below (blk_new ((w.alloc a).alloc b) c) B3
    rwa [s2] at h
  · have h := blk_new (((w.alloc a).alloc b).alloc c) d
    rwa [s3] at h

set_option maxRecDepth 100000 in
theorem new_no (w : World) (n : Int) (hn : (decide (n < 64) || decide (65536 < n) || (n % 64 != 0)) = true) : Calls Try.prog 44 #[.int .i64 n] w fun e w' => e = .returned (.tuple #[.pointer none, .int .i64 4]) ∧ Drawn0 w w' := by
  go_enter Try.func44, Try.ntmps44
  go_wp2
  all_goals (go_ret2; exact ⟨rfl, Drawn0.refl _⟩)

set_option maxRecDepth 100000 in
theorem new_yes (w : World) (n : Nat) (h0 : 64 ≤ n) (h1 : n ≤ 65536) (h2 : n % 64 = 0) : Calls Try.prog 44 #[.int .i64 (n : Int)] w fun e w' => e = .returned (.tuple #[.pointer (some ⟨w.heap.size + 1 + 1 + 1, 0, none⟩), .int .i64 0]) ∧ (∃ BB BW BG, w.heap.size ≤ BB ∧ w.heap.size ≤ BW ∧ w.heap.size ≤ BG ∧ IsRam w' (w.heap.size + 1 + 1 + 1) BB BW BG n (n / 64) (List.replicate n 0) (List.replicate (n / 64) false) (List.replicate (n / 64) 0)) ∧ Below w.heap.size w w' := by
  obtain ⟨k, hk⟩ : ∃ k : Nat, n / 64 = k := ⟨_, rfl⟩
  rw [hk]
  have m1 : ∀ w : World, (Instr.makeSlice 40 (.int .i64 (n : Int)) (.int .i64 (n : Int))).run Try.prog w = .ok (.slice (some ⟨w.heap.size, 0, none⟩) n n) (w.alloc (.cells (brow (List.replicate n 0)) 5)) := by
    intro w
    obtain ⟨i, hi, hz⟩ := Option.map_eq_some_iff.1 (show (Try.prog.info? 5).map (fun i => (i.zero, i.size, i.bytes)) = some (some (.int .u8 0), 1, 1) by kernel_rfl)
    simp only [Prod.mk.injEq] at hz
    obtain ⟨hz0, hz1, hz2⟩ := hz
    have h := run_make (P := Try.prog) w 40 5 i (.int .u8 0) Try.underlying40 hi hz0 .i64 .i64 (n : Int) (n : Int) (by omega) (by omega) (by rw [hz2]; omega) (by omega)
    rw [hz1] at h
    rw [show (Value.int .u8 0).cells = #[Value.int .u8 0] from rfl, made1, brow_made] at h
    simpa using h
  have m2 : ∀ w : World, (Instr.makeSlice 134 (.int .i64 (k : Int)) (.int .i64 (k : Int))).run Try.prog w = .ok (.slice (some ⟨w.heap.size, 0, none⟩) k k) (w.alloc (.cells (frow (List.replicate k false)) 4)) := by
    intro w
    obtain ⟨i, hi, hz⟩ := Option.map_eq_some_iff.1 (show (Try.prog.info? 4).map (fun i => (i.zero, i.size, i.bytes)) = some (some (.bool false), 1, 1) by kernel_rfl)
    simp only [Prod.mk.injEq] at hz
    obtain ⟨hz0, hz1, hz2⟩ := hz
    have h := run_make (P := Try.prog) w 134 4 i (.bool false) Try.underlying134 hi hz0 .i64 .i64 (k : Int) (k : Int) (by omega) (by omega) (by rw [hz2]; omega) (by omega)
    rw [hz1] at h
    rw [show (Value.bool false).cells = #[Value.bool false] from rfl, made1, frow_made] at h
    simpa using h
  have m3 : ∀ w : World, (Instr.makeSlice 135 (.int .i64 (k : Int)) (.int .i64 (k : Int))).run Try.prog w = .ok (.slice (some ⟨w.heap.size, 0, none⟩) k k) (w.alloc (.cells (grow (List.replicate k 0)) 28)) := by
    intro w
    obtain ⟨i, hi, hz⟩ := Option.map_eq_some_iff.1 (show (Try.prog.info? 28).map (fun i => (i.zero, i.size, i.bytes)) = some (some (.int .u64 0), 1, 8) by kernel_rfl)
    simp only [Prod.mk.injEq] at hz
    obtain ⟨hz0, hz1, hz2⟩ := hz
    have h := run_make (P := Try.prog) w 135 28 i (.int .u64 0) Try.underlying135 hi hz0 .i64 .i64 (k : Int) (k : Int) (by omega) (by omega) (by rw [hz2]; omega) (by omega)
    rw [hz1] at h
    rw [show (Value.int .u64 0).cells = #[Value.int .u64 0] from rfl, made1, grow_made] at h
    simpa using h
  have t0 : ((n : Int) / 64) = (k : Int) := by omega
  have t4 : wrap64 (k : Int) = k := by simp [wrap64, IntKind.wrap, IntKind.bits, IntKind.signed]; omega
  have t1 : ((n : Int) < 64) = False := by simp; omega
  have t2 : ((65536 : Int) < n) = False := by simp; omega
  have t3 : ((n : Int) % 64) = 0 := by omega
  go_enter Try.func44, Try.ntmps44
  go_wp2
  go_region
  all_goals go_wp2
  all_goals go_ret2
  all_goals refine ⟨rfl, ⟨_, _, _, ?_, ?_, ?_, ⟨(alloc4 w _ _ _ _).2.2.2.1, ?_, ?_, ?_, by simp, by simp, by simp, ?_, ?_, ?_, ?_, ?_, ?_⟩⟩, ?_⟩
  all_goals first | exact (alloc4 w _ _ _ _).1 | exact (alloc4 w _ _ _ _).2.1 | exact (alloc4 w _ _ _ _).2.2.1 | omega | exact (alloc4 w _ _ _ _).2.2.2.2 | exact pw_below_drewN (alloc4 w _ _ _ _).2.2.2.2 _ | exact Below.drew (alloc4 w _ _ _ _).2.2.2.2

set_option maxRecDepth 100000 in
theorem size_calls (w : World) {R BB BW BG n k : Nat} {l : List Int} {ws : List Bool} {gs : List Int} (h : IsRam w R BB BW BG n k l ws gs) : Calls Try.prog 73 #[.pointer (some ⟨R, 0, none⟩)] w fun e w' => e = .returned (.int .i64 n) ∧ Drawn0 w w' := by
  have c0 := h.c0
  clear h
  go_enter Try.func73, Try.ntmps73
  go_wp2
  go_ret
  exact ⟨rfl, Drawn0.refl _⟩

/-- Are addresses there? -/
def rhas (n : Nat) (a m : Int) : Bool := (decide (1 ≤ m) && decide (m ≤ n) && decide (2147483648 ≤ a)) && decide (a - 2147483648 ≤ n - m)

set_option maxRecDepth 100000 in
theorem has_calls (w : World) {R BB BW BG n k : Nat} {l : List Int} {ws : List Bool} {gs : List Int} (a m : Int) (h : IsRam w R BB BW BG n k l ws gs) (hn : n ≤ 65536) (a0 : 0 ≤ a) (a1 : a < 4294967296) : Calls Try.prog 88 #[.pointer (some ⟨R, 0, none⟩), .int .u32 a, .int .i64 m] w fun e w' => e = .returned (.bool (rhas n a m)) ∧ Drawn0 w w' := by
  have c0 := h.c0
  clear h
  go_enter Try.func88, Try.ntmps88
  go_wp2
  all_goals
    go_ret
    refine ⟨?_, Drawn0.refl _⟩
    refine congrArg (fun b => Ending.returned (.bool b)) (?_ : _ = rhas n a m)
    unfold rhas
    rw [Bool.eq_iff_iff]
    simp
    try omega

set_option maxRecDepth 100000 in
theorem has_nil (w : World) (a m : Int) : Calls Try.prog 88 #[.pointer none, .int .u32 a, .int .i64 m] w fun e w' => e = .returned (.bool false) ∧ Drawn0 w w' := by
  go_enter Try.func88, Try.ntmps88
  go_wp2
  go_ret
  exact ⟨rfl, Drawn0.refl _⟩

/-- The page of an address, or none. -/
def rpage (n : Nat) (a : Int) : Int := if rhas n a 1 = true then (a - 2147483648) / 64 else -1

end Go.Proofs.Ytfnbpmkbjbibkaa

namespace Go.Proofs.Ytfnbpmkbjbibkaa
open Go Go.RowKit Go.Proofs.YtfnbpmkbjbibkaaW.PrintWords
set_option linter.unusedVariables false
set_option linter.unusedSimpArgs false

set_option maxRecDepth 100000 in
theorem fill_nil (w : World) (a : Int) (p : Option Addr) (n c : Nat) : Calls Try.prog 74 #[.pointer none, .int .u32 a, .slice p n c] w fun e w' => e = .returned (.int .i64 2) ∧ Drawn0 w w' := by
  go_enter Try.func74, Try.ntmps74
  go_wp2
  go_ret
  exact ⟨rfl, Drawn0.refl _⟩

set_option maxRecDepth 100000 in
theorem size_nil (w : World) : Calls Try.prog 73 #[.pointer none] w fun e w' => e = .returned (.int .i64 0) ∧ Drawn0 w w' := by
  go_enter Try.func73, Try.ntmps73
  go_wp2
  go_ret
  exact ⟨rfl, Drawn0.refl _⟩

set_option maxRecDepth 100000 in
theorem bytes_nil (w : World) : Calls Try.prog 33 #[.pointer none] w fun e w' => e = .returned (.slice none 0 0) ∧ Drawn0 w w' := by
  go_enter Try.func33, Try.ntmps33
  go_wp2
  go_ret
  exact ⟨rfl, Drawn0.refl _⟩

/-- Why bytes may not be loaded, or stored. -/
def rasked (n : Nat) (a m : Int) : Int := if m = 1 ∨ m = 2 ∨ m = 4 then (if a % m = 0 then (if rhas n a m = true then 0 else 6) else 5) else 2

end Go.Proofs.Ytfnbpmkbjbibkaa

namespace Go.Proofs.Ytfnbpmkbjbibkaa
open Go Go.RowKit Go.Proofs.YtfnbpmkbjbibkaaW.PrintWords
set_option linter.unusedVariables false
set_option linter.unusedSimpArgs false

/-- A row put into a block: the block's cells behind it. -/
def putAt (a : Array Value) : Nat → List Value → Array Value
  | _, [] => a
  | o, v :: vs => putAt (a.setIfInBounds o v) (o + 1) vs
theorem blk_setCells {B : Nat} {t : TypeId} : ∀ (vs : List Value) (o : Nat) (w : World) (a : Array Value), w.heap[B]? = some (.cells a t) → (w.setCells B o vs).heap[B]? = some (.cells (putAt a o vs) t)
  | [], _, _, _, h => h
  | v :: vs, o, w, a, h => blk_setCells vs (o + 1) _ _ (blk_set h o v)
theorem only_setCells {B : Nat} : ∀ (vs : List Value) (o : Nat) (w : World), Only B w (w.setCells B o vs)
  | [], _, w => Only.refl B w
  | v :: vs, o, w => ((Only.refl B w).setCell o v).trans (only_setCells vs (o + 1) _)
theorem putAt_list : ∀ (vs : List Value) (o : Nat) (a : Array Value), o + vs.length ≤ a.size → (putAt a o vs).toList = a.toList.take o ++ vs ++ a.toList.drop (o + vs.length)
  | [], o, a, h => by simp [putAt]
  | v :: vs, o, a, h => by
    have h' : o < a.size := by simp at h; omega
    rw [putAt, putAt_list vs (o + 1) _ (by simp at h ⊢; omega)]
    simp only [Array.toList_setIfInBounds, List.length_cons]
    have hl : a.toList.length = a.size := Array.length_toList
    rw [List.set_eq_take_append_cons_drop, if_pos (by rw [hl]; exact h')]
    have e1 : (a.toList.take o).length = o := by rw [List.length_take, hl]; omega
    have e2 : (a.toList.take o ++ v :: a.toList.drop (o + 1)).take (o + 1) = a.toList.take o ++ [v] := by
      rw [List.take_append, e1, List.take_of_length_le (by omega), show o + 1 - o = 1 by omega]; rfl
    have e3 : (a.toList.take o ++ v :: a.toList.drop (o + 1)).drop (o + 1 + vs.length) = a.toList.drop (o + (vs.length + 1)) := by
      rw [List.drop_append, e1, List.drop_of_length_le (by omega), show o + 1 + vs.length - o = vs.length + 1 by omega, List.drop_succ_cons, List.drop_drop, List.nil_append]
      congr 1
      omega
    rw [e2, e3]
    simp
/-- Bytes put over bytes. -/
theorem brow_put (l bs : List Int) (j : Nat) (h : j + bs.length ≤ l.length) : putAt (brow l) j (bs.map (Value.int .u8)) = brow (l.take j ++ bs ++ l.drop (j + bs.length)) := by
  apply Array.toList_inj.1
  rw [putAt_list _ _ _ (by simp [brow]; exact h)]
  simp [brow, List.map_take, List.map_drop]
theorem brow_size (l : List Int) : (brow l).size = l.length := by simp [brow]
theorem brow_get (l : List Int) (j : Nat) : (brow l)[j]? = (l.map (Value.int .u8))[j]? := by simp [brow]
theorem brow_some (l : List Int) (j : Nat) (h : j < l.length) : ((brow l)[j]?).isSome = true := by simp [brow, h]

set_option maxRecDepth 100000 in
theorem bytes_calls (w : World) {R BB BW BG n k : Nat} {l : List Int} {ws : List Bool} {gs : List Int} (h : IsRam w R BB BW BG n k l ws gs) (hn : n ≤ 65536) : Calls Try.prog 33 #[.pointer (some ⟨R, 0, none⟩)] w fun e w' => e = .returned (.slice (some ⟨w.heap.size, 0, none⟩) n n) ∧ w'.heap[w.heap.size]? = some (.cells (brow l) 5) ∧ Below w.heap.size w w' := by
  have c0 := h.c0
  have m1 : ∀ w : World, (Instr.makeSlice 40 (.int .i64 (n : Int)) (.int .i64 (n : Int))).run Try.prog w = .ok (.slice (some ⟨w.heap.size, 0, none⟩) n n) (w.alloc (.cells (brow (List.replicate n 0)) 5)) := by
    intro w
    obtain ⟨i, hi, hz⟩ := Option.map_eq_some_iff.1 (show (Try.prog.info? 5).map (fun i => (i.zero, i.size, i.bytes)) = some (some (.int .u8 0), 1, 1) by kernel_rfl)
    simp only [Prod.mk.injEq] at hz
    obtain ⟨hz0, hz1, hz2⟩ := hz
    have h := run_make (P := Try.prog) w 40 5 i (.int .u8 0) Try.underlying40 hi hz0 .i64 .i64 (n : Int) (n : Int) (by omega) (by omega) (by rw [hz2]; omega) (by omega)
    rw [hz1] at h
    rw [show (Value.int .u8 0).cells = #[Value.int .u8 0] from rfl, made1, brow_made] at h
    simpa using h
  have hB := below_alloc (Below.refl w.heap.size w) (.cells (brow (List.replicate n 0)) 5)
  have c1 := (h.below hB).c0
  have hb := blk_below h.b hB
  have hnw := blk_new w (.cells (brow (List.replicate n 0)) 5)
  have cp : ∀ ty, (Builtin.copy_ #[40, 40] ty #[.slice (some ⟨w.heap.size, 0, none⟩) n n, .slice (some ⟨BB, 0, none⟩) n n]).run Try.prog (w.alloc (.cells (brow (List.replicate n 0)) 5)) = .ok (goInt n) ((w.alloc (.cells (brow (List.replicate n 0)) 5)).setCells w.heap.size 0 (l.map (Value.int .u8))) := by
    intro ty
    have := run_copy_cells (P := Try.prog) (w.alloc (.cells (brow (List.replicate n 0)) 5)) 40 40 ty 5 w.heap.size 0 n n ⟨BB, 0, none⟩ n n (l.map (Value.int .u8)) Try.underlying40 (by kernel_rfl) (by simp [h.nl]) (fun j v hj => ?_) (fun j hj => ?_) (fun j hj => ?_) (fun v hv => ?_)
    · simpa [h.nl] using this
    · rw [show (⟨BB, 0, none⟩ : Addr).add j = ⟨BB, j, none⟩ by simp [Addr.add]; omega, blk_cell hb j, brow_get]
      exact hj
    · rw [blk_cell hnw (0 + j)]
      exact brow_some _ _ (by simp [h.nl] at hj ⊢; omega)
    · exact blk_frozen hnw _
    · obtain ⟨x, _, rfl⟩ := List.mem_map.1 hv
      rfl
  go_enter Try.func33, Try.ntmps33
  go_wp2
  go_ret
  refine ⟨rfl, ?_, ?_⟩
  · have := blk_setCells (l.map (Value.int .u8)) 0 _ _ hnw
    rw [brow_put _ _ _ (by simp [h.nl])] at this
    simpa [h.nl] using this
  · exact (only_setCells _ _ _).below (Nat.le_refl _) hB

end Go.Proofs.Ytfnbpmkbjbibkaa

namespace Go.Proofs.Ytfnbpmkbjbibkaa
open Go Go.RowKit Go.Proofs.YtfnbpmkbjbibkaaW.PrintWords
set_option linter.unusedVariables false
set_option linter.unusedSimpArgs false

theorem drawn_trans {a b c : World} (h : Drawn0 a b) (k : Drawn0 b c) : Drawn0 a c := by
  obtain ⟨⟨n, rfl⟩⟩ := k
  exact h.step n
theorem addr_add (B j i : Nat) : (⟨B, j, none⟩ : Addr).add i = ⟨B, j + i, none⟩ := by
  simp [Addr.add]; try omega
/-- A part of a row of bytes, as it is read. -/
theorem brow_C {w : World} {BB : Nat} {l : List Int} (h : w.heap[BB]? = some (.cells (brow l) 5)) (j m : Nat) (hm : j + m ≤ l.length) (hl : l.length ≤ 65536) : (Kd.int .u8).C w (some ⟨BB, j, none⟩) m ((l.drop j).take m) := by
  refine ⟨by simp; omega, by omega, fun _ => ⟨_, rfl, fun i p hp => ⟨[.int .u8 p], rfl, rfl, fun i' u hu => ?_⟩⟩⟩
  have hi : i' = 0 ∧ u = .int .u8 p := by
    cases i' with
    | zero => simp at hu; exact ⟨rfl, hu.symm⟩
    | succ q => simp at hu
  obtain ⟨rfl, rfl⟩ := hi
  rw [addr_add, blk_cell h, brow_get]
  have : (l.drop j)[i]? = some p := by
    rw [List.getElem?_take] at hp
    split at hp
    · exact hp
    · cases hp
  rw [List.getElem?_drop] at this
  show (l.map (Value.int .u8))[j + (i * 1 + 0)]? = _
  rw [List.getElem?_map, show j + (i * 1 + 0) = j + i by omega, this]
  rfl

set_option maxRecDepth 100000 in
theorem at_calls (w : World) {R BB BW BG n k : Nat} {l : List Int} {ws : List Bool} {gs : List Int} (a : Int) (j m : Nat) (h : IsRam w R BB BW BG n k l ws gs) (hn : n ≤ 65536) (ha : 2147483648 ≤ a) (hj : a - 2147483648 = j) (hm : j + m ≤ n) (m0 : 0 < m) : Calls Try.prog 89 #[.pointer (some ⟨R, 0, none⟩), .int .u32 a, .int .i64 m] w fun e w' => e = .returned (.slice (some ⟨BB, j, none⟩) m m) ∧ Drawn0 w w' := by
  have c0 := h.c0
  clear h
  have w1 : wrap64 ((j : Int) + m) = ((j + m : Nat) : Int) := by simp [wrap64, IntKind.wrap, IntKind.bits, IntKind.signed]; omega
  have w2 : IntKind.u32.wrap (a - 2147483648) = j := by simp [IntKind.wrap, IntKind.bits, IntKind.signed]; omega
  go_enter Try.func89, Try.ntmps89
  go_wp2
  all_goals first
    | (exfalso; omega)
    | (have e9 : j + m - j = m := by omega
       simp only [e9]
       go_ret
       exact ⟨rfl, Drawn0.refl _⟩)
    | (go_ret; exact ⟨rfl, Drawn0.refl _⟩)

end Go.Proofs.Ytfnbpmkbjbibkaa

namespace Go.Proofs.Ytfnbpmkbjbibkaa
open Go Go.RowKit Go.Proofs.YtfnbpmkbjbibkaaW.PrintWords
set_option linter.unusedVariables false
set_option linter.unusedSimpArgs false

/-- Writes to some blocks alone (those that P holds of), and new blocks. -/
structure OnlyP (P : Nat → Prop) (w w' : World) : Prop where
  os : w'.os = w.os
  tape : w'.tape = w.tape
  output : w'.output = w.output
  size : w.heap.size ≤ w'.heap.size
  block : ∀ k, k < w.heap.size → ¬ P k → w'.heap[k]? = w.heap[k]?
theorem OnlyP.refl (P : Nat → Prop) (w : World) : OnlyP P w w := ⟨rfl, rfl, rfl, Nat.le_refl _, fun _ _ _ => rfl⟩
theorem OnlyP.trans {P : Nat → Prop} {a b c : World} (h : OnlyP P a b) (k : OnlyP P b c) : OnlyP P a c :=
  ⟨k.os.trans h.os, k.tape.trans h.tape, k.output.trans h.output, Nat.le_trans h.size k.size, fun i hi hn => (k.block i (Nat.lt_of_lt_of_le hi h.size) hn).trans (h.block i hi hn)⟩
theorem OnlyP.of_below {P : Nat → Prop} {w w' : World} (h : Below w.heap.size w w') : OnlyP P w w' := ⟨h.os, h.tape, h.output, h.size, fun k hk _ => h.block k hk⟩
theorem OnlyP.of_only {P : Nat → Prop} {B : Nat} {w w' : World} (h : Only B w w') (hB : P B) : OnlyP P w w' := ⟨h.os, h.tape, h.output, h.size, fun k hk hn => h.block k hk (fun e => hn (e ▸ hB))⟩
theorem OnlyP.drawn {P : Nat → Prop} {a w w' : World} (h : OnlyP P a w) (d : Drawn0 w w') : OnlyP P a w' := h.trans (.of_below d.below)
theorem OnlyP.below {P : Nat → Prop} {W w w' : World} (h : OnlyP P w w') (hP : ∀ k, P k → W.heap.size ≤ k) (hb : Below W.heap.size W w) : Below W.heap.size W w' :=
  hb.trans ⟨h.os, h.tape, h.output, h.size, fun k hk => h.block k (Nat.lt_of_lt_of_le hk hb.size) (fun hp => by have := hP k hp; omega)⟩
theorem frow_set (ws : List Bool) (p : Nat) (b : Bool) : (frow ws).setIfInBounds p (.bool b) = frow (ws.set p b) := by
  apply Array.toList_inj.1; simp [frow, List.map_set]
theorem grow_set (gs : List Int) (p : Nat) (b : Int) : (grow gs).setIfInBounds p (.int .u64 b) = grow (gs.set p b) := by
  apply Array.toList_inj.1; simp [grow, List.map_set]
section
variable {w : World} {R BB BW BG n k : Nat} {l : List Int} {ws : List Bool} {gs : List Int}
theorem IsRam.put (h : IsRam w R BB BW BG n k l ws gs) (bs : List Int) (j : Nat) (hj : j + bs.length ≤ n) : IsRam (w.setCells BB j (bs.map (Value.int .u8))) R BB BW BG n k (l.take j ++ bs ++ l.drop (j + bs.length)) ws gs := by
  have o := only_setCells (B := BB) (bs.map (Value.int .u8)) j w
  refine ⟨blk_only h.r o h.rb, ?_, blk_only h.f o (Ne.symm h.bf), blk_only h.g o (Ne.symm h.bg), ?_, h.nw, h.ng, h.rb, h.rf, h.rg, h.bf, h.bg, h.fg⟩
  · have := blk_setCells (bs.map (Value.int .u8)) j w _ h.b
    rwa [brow_put _ _ _ (by rw [h.nl]; exact hj)] at this
  · have := h.nl
    simp; omega
theorem IsRam.setF (h : IsRam w R BB BW BG n k l ws gs) (p : Nat) (b : Bool) : IsRam (w.setCell ⟨BW, p, none⟩ (.bool b)) R BB BW BG n k l (ws.set p b) gs := by
  have o := (Only.refl BW w).setCell p (.bool b)
  refine ⟨blk_only h.r o h.rf, blk_only h.b o h.bf, ?_, blk_only h.g o (Ne.symm h.fg), h.nl, by rw [List.length_set]; exact h.nw, h.ng, h.rb, h.rf, h.rg, h.bf, h.bg, h.fg⟩
  have := blk_set h.f p (.bool b)
  rwa [frow_set] at this
theorem IsRam.setG (h : IsRam w R BB BW BG n k l ws gs) (p : Nat) (b : Int) : IsRam (w.setCell ⟨BG, p, none⟩ (.int .u64 b)) R BB BW BG n k l ws (gs.set p b) := by
  have o := (Only.refl BG w).setCell p (.int .u64 b)
  refine ⟨blk_only h.r o h.rg, blk_only h.b o h.bg, blk_only h.f o h.fg, ?_, h.nl, h.nw, by rw [List.length_set]; exact h.ng, h.rb, h.rf, h.rg, h.bf, h.bg, h.fg⟩
  have := blk_set h.g p (.int .u64 b)
  rwa [grow_set] at this
theorem IsRam.cf (h : IsRam w R BB BW BG n k l ws gs) (p : Nat) {b : Bool} (hp : ws[p]? = some b) : w.cell? ⟨BW, p, none⟩ = some (.bool b) := by
  rw [blk_cell h.f p]; simp [frow, hp]
theorem IsRam.cg (h : IsRam w R BB BW BG n k l ws gs) (p : Nat) {b : Int} (hp : gs[p]? = some b) : w.cell? ⟨BG, p, none⟩ = some (.int .u64 b) := by
  rw [blk_cell h.g p]; simp [grow, hp]
end

end Go.Proofs.Ytfnbpmkbjbibkaa

namespace Go.Proofs.Ytfnbpmkbjbibkaa
open Go Go.RowKit Go.Proofs.YtfnbpmkbjbibkaaW.PrintWords
set_option linter.unusedVariables false
set_option linter.unusedSimpArgs false

section
variable {w : World} {R BB BW BG n k : Nat} {l : List Int} {ws : List Bool} {gs : List Int}
end
end Go.Proofs.Ytfnbpmkbjbibkaa
