/- The memory's methods, each by its contract. -/
import Derived.Test.YtdalboofhckobaaDoorOnly
import Derived.Test.YtdalboofhckobaaDoorQBusPlaysx
import Derived.Test.YtdalboofhckobaaDoorProg
import Derived.WalkKit
import Derived.RegionTactic
import Derived.Deep.QuietTactic
import Derived.BigQuiet
import Derived.Deep.RegionWith
import Derived.Laws.MakeOwn
namespace Go.Proofs.YtdalboofhckobaaDoor
open Go Go.RowKit Go.Proofs.YtdalboofhckobaaDoorW.PrintWords
set_option linter.unusedVariables false
set_option linter.unusedSimpArgs false

theorem made1 (z : Value) (n : Nat) : madeCells #[z] n = Array.replicate n z := by
  unfold madeCells
  apply Array.ext
  · simp
  · intro i h1 h2
    simp [Nat.mod_one]


/-- Rows of bytes, of marks, of numbers. -/
def brow (l : List Int) : Array Value := (l.map (Value.int .u8)).toArray
def frow (l : List Bool) : Array Value := (l.map Value.bool).toArray
def grow (l : List Int) : Array Value := (l.map (Value.int .u64)).toArray
theorem brow_made (n : Nat) : Array.replicate n (Value.int .u8 0) = brow (List.replicate n 0) := by simp [brow]
theorem frow_made (n : Nat) : Array.replicate n (Value.bool false) = frow (List.replicate n false) := by simp [frow]
theorem grow_made (n : Nat) : Array.replicate n (Value.int .u64 0) = grow (List.replicate n 0) := by simp [grow]

/-- Block R is a memory: its bytes, marks and generations lie in blocks of their own. -/
structure IsRam (w : World) (R BB BW BG n k : Nat) (l : List Int) (ws : List Bool) (gs : List Int) : Prop where
  r : w.heap[R]? = some (.cells #[.slice (some ⟨BB, 0, none⟩) n n, .slice (some ⟨BW, 0, none⟩) k k, .slice (some ⟨BG, 0, none⟩) k k] 81)
  b : w.heap[BB]? = some (.cells (brow l) 5)
  f : w.heap[BW]? = some (.cells (frow ws) 4)
  g : w.heap[BG]? = some (.cells (grow gs) 37)
  nl : l.length = n
  nw : ws.length = k
  ng : gs.length = k
  rb : R ≠ BB
  rf : R ≠ BW
  rg : R ≠ BG
  bf : BB ≠ BW
  bg : BB ≠ BG
  fg : BW ≠ BG
theorem IsRam.below {w w' : World} {R BB BW BG n k : Nat} {l : List Int} {ws : List Bool} {gs : List Int} (h : IsRam w R BB BW BG n k l ws gs) (q : Below w.heap.size w w') : IsRam w' R BB BW BG n k l ws gs :=
  ⟨blk_below h.r q, blk_below h.b q, blk_below h.f q, blk_below h.g q, h.nl, h.nw, h.ng, h.rb, h.rf, h.rg, h.bf, h.bg, h.fg⟩
theorem IsRam.drawn {w w' : World} {R BB BW BG n k : Nat} {l : List Int} {ws : List Bool} {gs : List Int} (h : IsRam w R BB BW BG n k l ws gs) (q : Drawn0 w w') : IsRam w' R BB BW BG n k l ws gs := by
  obtain ⟨⟨m, rfl⟩⟩ := q; exact ⟨h.r, h.b, h.f, h.g, h.nl, h.nw, h.ng, h.rb, h.rf, h.rg, h.bf, h.bg, h.fg⟩
theorem IsRam.drewN {w : World} {R BB BW BG n k : Nat} {l : List Int} {ws : List Bool} {gs : List Int} (m : Nat) (h : IsRam w R BB BW BG n k l ws gs) : IsRam (w.drewN m) R BB BW BG n k l ws gs := ⟨h.r, h.b, h.f, h.g, h.nl, h.nw, h.ng, h.rb, h.rf, h.rg, h.bf, h.bg, h.fg⟩
theorem IsRam.c0 {w : World} {R BB BW BG n k : Nat} {l : List Int} {ws : List Bool} {gs : List Int} (h : IsRam w R BB BW BG n k l ws gs) : w.cell? ⟨R, 0, none⟩ = some (.slice (some ⟨BB, 0, none⟩) n n) := (blk_cell h.r 0).trans rfl
theorem IsRam.c1 {w : World} {R BB BW BG n k : Nat} {l : List Int} {ws : List Bool} {gs : List Int} (h : IsRam w R BB BW BG n k l ws gs) : w.cell? ⟨R, 1, none⟩ = some (.slice (some ⟨BW, 0, none⟩) k k) := (blk_cell h.r 1).trans rfl
theorem IsRam.c2 {w : World} {R BB BW BG n k : Nat} {l : List Int} {ws : List Bool} {gs : List Int} (h : IsRam w R BB BW BG n k l ws gs) : w.cell? ⟨R, 2, none⟩ = some (.slice (some ⟨BG, 0, none⟩) k k) := (blk_cell h.r 2).trans rfl

theorem alloc4 (w : World) (a b c d : Obj) : ((((w.alloc a).alloc b).alloc c).alloc d).heap[w.heap.size]? = some a ∧ ((((w.alloc a).alloc b).alloc c).alloc d).heap[w.heap.size + 1]? = some b ∧ ((((w.alloc a).alloc b).alloc c).alloc d).heap[w.heap.size + 1 + 1]? = some c ∧ ((((w.alloc a).alloc b).alloc c).alloc d).heap[w.heap.size + 1 + 1 + 1]? = some d ∧ Below w.heap.size w ((((w.alloc a).alloc b).alloc c).alloc d) := by
  have s1 : (w.alloc a).heap.size = w.heap.size + 1 := Array.size_push _
  have s2 : ((w.alloc a).alloc b).heap.size = w.heap.size + 1 + 1 := by rw [← s1]; exact Array.size_push _
  have s3 : (((w.alloc a).alloc b).alloc c).heap.size = w.heap.size + 1 + 1 + 1 := by rw [← s2]; exact Array.size_push _
  have B1 := below_alloc (Below.refl (w.alloc a).heap.size (w.alloc a)) b
  have B2 := below_alloc (Below.refl ((w.alloc a).alloc b).heap.size ((w.alloc a).alloc b)) c
  have B3 := below_alloc (Below.refl (((w.alloc a).alloc b).alloc c).heap.size (((w.alloc a).alloc b).alloc c)) d
  refine ⟨blk_below (blk_below (blk_below (blk_new w a) B1) B2) B3, ?_, ?_, ?_, below_alloc (below_alloc (below_alloc (below_alloc (Below.refl _ _) a) b) c) d⟩
  · have h := blk_below (blk_below (blk_new (w.alloc a) b) B2) B3
    rwa [s1] at h
  · have h := blk_below (blk_new ((w.alloc a).alloc b) c) B3
    rwa [s2] at h
  · have h := blk_new (((w.alloc a).alloc b).alloc c) d
    rwa [s3] at h

set_option maxRecDepth 100000 in
theorem new_no (w : World) (n : Int) (hn : (decide (n < 64) || decide (65536 < n) || (n % 64 != 0)) = true) : Calls Tryd.prog 19 #[.int .i64 n] w fun e w' => e = .returned (.tuple #[.pointer none, .int .i64 4]) ∧ Drawn0 w w' := by
  go_enter Tryd.func19, Tryd.ntmps19
  go_wp2
  all_goals (go_ret2; exact ⟨rfl, Drawn0.refl _⟩)

set_option maxRecDepth 100000 in
theorem new_yes (w : World) (n : Nat) (h0 : 64 ≤ n) (h1 : n ≤ 65536) (h2 : n % 64 = 0) : Calls Tryd.prog 19 #[.int .i64 (n : Int)] w fun e w' => e = .returned (.tuple #[.pointer (some ⟨w.heap.size + 1 + 1 + 1, 0, none⟩), .int .i64 0]) ∧ (∃ BB BW BG, w.heap.size ≤ BB ∧ w.heap.size ≤ BW ∧ w.heap.size ≤ BG ∧ IsRam w' (w.heap.size + 1 + 1 + 1) BB BW BG n (n / 64) (List.replicate n 0) (List.replicate (n / 64) false) (List.replicate (n / 64) 0)) ∧ Below w.heap.size w w' := by
  obtain ⟨k, hk⟩ : ∃ k : Nat, n / 64 = k := ⟨_, rfl⟩
  rw [hk]
  have m1 : ∀ w : World, (Instr.makeSlice 29 (.int .i64 (n : Int)) (.int .i64 (n : Int))).run Tryd.prog w = .ok (.slice (some ⟨w.heap.size, 0, none⟩) n n) (w.alloc (.cells (brow (List.replicate n 0)) 5)) := by
    intro w
    obtain ⟨i, hi, hz⟩ := Option.map_eq_some_iff.1 (show (Tryd.prog.info? 5).map (fun i => (i.zero, i.size, i.bytes)) = some (some (.int .u8 0), 1, 1) by kernel_rfl)
    simp only [Prod.mk.injEq] at hz
    obtain ⟨hz0, hz1, hz2⟩ := hz
    have h := run_make (P := Tryd.prog) w 29 5 i (.int .u8 0) Tryd.underlying29 hi hz0 .i64 .i64 (n : Int) (n : Int) (by omega) (by omega) (by rw [hz2]; omega) (by omega)
    rw [hz1] at h
    rw [show (Value.int .u8 0).cells = #[Value.int .u8 0] from rfl, made1, brow_made] at h
    simpa using h
  have m2 : ∀ w : World, (Instr.makeSlice 78 (.int .i64 (k : Int)) (.int .i64 (k : Int))).run Tryd.prog w = .ok (.slice (some ⟨w.heap.size, 0, none⟩) k k) (w.alloc (.cells (frow (List.replicate k false)) 4)) := by
    intro w
    obtain ⟨i, hi, hz⟩ := Option.map_eq_some_iff.1 (show (Tryd.prog.info? 4).map (fun i => (i.zero, i.size, i.bytes)) = some (some (.bool false), 1, 1) by kernel_rfl)
    simp only [Prod.mk.injEq] at hz
    obtain ⟨hz0, hz1, hz2⟩ := hz
    have h := run_make (P := Tryd.prog) w 78 4 i (.bool false) Tryd.underlying78 hi hz0 .i64 .i64 (k : Int) (k : Int) (by omega) (by omega) (by rw [hz2]; omega) (by omega)
    rw [hz1] at h
    rw [show (Value.bool false).cells = #[Value.bool false] from rfl, made1, frow_made] at h
    simpa using h
  have m3 : ∀ w : World, (Instr.makeSlice 79 (.int .i64 (k : Int)) (.int .i64 (k : Int))).run Tryd.prog w = .ok (.slice (some ⟨w.heap.size, 0, none⟩) k k) (w.alloc (.cells (grow (List.replicate k 0)) 37)) := by
    intro w
    obtain ⟨i, hi, hz⟩ := Option.map_eq_some_iff.1 (show (Tryd.prog.info? 37).map (fun i => (i.zero, i.size, i.bytes)) = some (some (.int .u64 0), 1, 8) by kernel_rfl)
    simp only [Prod.mk.injEq] at hz
    obtain ⟨hz0, hz1, hz2⟩ := hz
    have h := run_make (P := Tryd.prog) w 79 37 i (.int .u64 0) Tryd.underlying79 hi hz0 .i64 .i64 (k : Int) (k : Int) (by omega) (by omega) (by rw [hz2]; omega) (by omega)
    rw [hz1] at h
    rw [show (Value.int .u64 0).cells = #[Value.int .u64 0] from rfl, made1, grow_made] at h
    simpa using h
  have t0 : ((n : Int) / 64) = (k : Int) := by omega
  have t4 : wrap64 (k : Int) = k := by simp [wrap64, IntKind.wrap, IntKind.bits, IntKind.signed]; omega
  have t1 : ((n : Int) < 64) = False := by simp; omega
  have t2 : ((65536 : Int) < n) = False := by simp; omega
  have t3 : ((n : Int) % 64) = 0 := by omega
  go_enter Tryd.func19, Tryd.ntmps19
  go_wp2
  go_region
  all_goals go_wp2
  all_goals go_ret2
  all_goals refine ⟨rfl, ⟨_, _, _, ?_, ?_, ?_, ⟨(alloc4 w _ _ _ _).2.2.2.1, ?_, ?_, ?_, by simp, by simp, by simp, ?_, ?_, ?_, ?_, ?_, ?_⟩⟩, ?_⟩
  all_goals first | exact (alloc4 w _ _ _ _).1 | exact (alloc4 w _ _ _ _).2.1 | exact (alloc4 w _ _ _ _).2.2.1 | omega | exact (alloc4 w _ _ _ _).2.2.2.2 | exact pw_below_drewN (alloc4 w _ _ _ _).2.2.2.2 _ | exact Below.drew (alloc4 w _ _ _ _).2.2.2.2

/-- Are addresses there? -/
def rhas (n : Nat) (a m : Int) : Bool := (decide (1 ≤ m) && decide (m ≤ n) && decide (2147483648 ≤ a)) && decide (a - 2147483648 ≤ n - m)

set_option maxRecDepth 100000 in
theorem has_calls (w : World) {R BB BW BG n k : Nat} {l : List Int} {ws : List Bool} {gs : List Int} (a m : Int) (h : IsRam w R BB BW BG n k l ws gs) (hn : n ≤ 65536) (a0 : 0 ≤ a) (a1 : a < 4294967296) : Calls Tryd.prog 31 #[.pointer (some ⟨R, 0, none⟩), .int .u32 a, .int .i64 m] w fun e w' => e = .returned (.bool (rhas n a m)) ∧ Drawn0 w w' := by
  have c0 := h.c0
  clear h
  go_enter Tryd.func31, Tryd.ntmps31
  go_wp2
  all_goals
    go_ret
    refine ⟨?_, Drawn0.refl _⟩
    refine congrArg (fun b => Ending.returned (.bool b)) (?_ : _ = rhas n a m)
    unfold rhas
    rw [Bool.eq_iff_iff]
    simp
    try omega

set_option maxRecDepth 100000 in
theorem has_nil (w : World) (a m : Int) : Calls Tryd.prog 31 #[.pointer none, .int .u32 a, .int .i64 m] w fun e w' => e = .returned (.bool false) ∧ Drawn0 w w' := by
  go_enter Tryd.func31, Tryd.ntmps31
  go_wp2
  go_ret
  exact ⟨rfl, Drawn0.refl _⟩

/-- The page of an address, or none. -/
def rpage (n : Nat) (a : Int) : Int := if rhas n a 1 = true then (a - 2147483648) / 64 else -1

set_option maxRecDepth 100000 in
theorem page_calls (w : World) {R BB BW BG n k : Nat} {l : List Int} {ws : List Bool} {gs : List Int} (a : Int) (h : IsRam w R BB BW BG n k l ws gs) (hn : n ≤ 65536) (a0 : 0 ≤ a) (a1 : a < 4294967296) : Calls Tryd.prog 15 #[.pointer (some ⟨R, 0, none⟩), .int .u32 a] w fun e w' => e = .returned (.int .i64 (rpage n a)) ∧ Drawn0 w w' := by
  have HH := Aside0.mk (has_calls w a 1 h hn a0 a1)
  cases hr : rhas n a 1
  · rw [show rpage n a = -1 by unfold rpage; rw [hr]; rfl]
    rw [hr] at HH
    clear h hr
    go_enter Tryd.func15, Tryd.ntmps15
    go_wp2_with fail
    refine HH.out.mono ?_
    rintro e w1 ⟨rfl, d1⟩
    go_wp2_with fail
    go_ret
    exact ⟨rfl, d1⟩
  · rw [show rpage n a = (a - 2147483648) / 64 by unfold rpage; rw [hr]; rfl]
    have hb : 2147483648 ≤ a := by unfold rhas at hr; simp at hr; omega
    rw [hr] at HH
    clear h hr
    go_enter Tryd.func15, Tryd.ntmps15
    go_wp2_with fail
    refine HH.out.mono ?_
    rintro e w1 ⟨rfl, d1⟩
    go_wp2_with fail
    go_ret
    refine ⟨?_, d1⟩
    rfl

set_option maxRecDepth 100000 in
theorem page_nil (w : World) (a : Int) : Calls Tryd.prog 15 #[.pointer none, .int .u32 a] w fun e w' => e = .returned (.int .i64 (-1)) ∧ Drawn0 w w' := by
  have HH := Aside0.mk (has_nil w a 1)
  go_enter Tryd.func15, Tryd.ntmps15
  go_wp2_with fail
  refine HH.out.mono ?_
  rintro e w1 ⟨rfl, d1⟩
  go_wp2_with fail
  go_ret
  exact ⟨rfl, d1⟩

end Go.Proofs.YtdalboofhckobaaDoor
