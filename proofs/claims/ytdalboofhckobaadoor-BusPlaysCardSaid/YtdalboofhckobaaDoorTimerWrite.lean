/- The timer's Write, by its contract . -/
import Derived.Test.YtdalboofhckobaaDoorQBusPlaysx
import Derived.Test.YtdalboofhckobaaDoorTimer
import Derived.Test.YtdalboofhckobaaDoorRamE
import Derived.Test.YtdalboofhckobaaDoorDrawn
import Derived.Laws.EntriesVeiled
import Derived.Test.YtdalboofhckobaaDoorFNum
import Derived.Laws.BitsLemmas
namespace Go.Proofs.YtdalboofhckobaaDoor
open Go Go.RowKit Go.Proofs.YtdalboofhckobaaDoorW.PrintWords
set_option linter.unusedVariables false
set_option linter.unusedSimpArgs false

set_option maxRecDepth 100000 in
theorem tnew_calls (w : World) : Calls Tryd.prog 22 #[] w fun e w' => e = .returned (.pointer (some ⟨w.heap.size, 0, none⟩)) ∧ IsT w' w.heap.size 0 18446744073709551615 false ∧ Below w.heap.size w w' := by
  have hF := Aside0.mk (show IsT (w.alloc (.cells #[.int .u64 0, .int .u64 18446744073709551615, .bool false] 96)) w.heap.size 0 18446744073709551615 false from blk_new w _)
  go_enter Tryd.func22, Tryd.ntmps22
  go_wp2
  go_ret
  exact ⟨rfl, hF.out, below_alloc (Below.refl _ _) _⟩
end Go.Proofs.YtdalboofhckobaaDoor

namespace Go.Proofs.YtdalboofhckobaaDoor
open Go Go.RowKit Go.Proofs.YtdalboofhckobaaDoor.QBusPlays Go.Proofs.YtdalboofhckobaaDoorW.PrintWords
set_option linter.unusedVariables false
set_option linter.unusedSimpArgs false

set_option maxRecDepth 100000 in
theorem read_no (w : World) (B : Nat) (o m a t : Int) (s : Bool) (hA : timer_Has.f a = some false) :
    Calls Tryd.prog 43 #[.pointer (some ⟨B, 0, none⟩), .int .u32 a, .int .u64 t] w fun e w' => e = .returned (.tuple #[.int .u32 0, .int .i64 6]) ∧ Drawn0 w w' := by
  have HA := Aside0.mk hA
  clear hA
  go_enter Tryd.func43, Tryd.ntmps43
  go_wp2_with fail
  refine (timer_Has.calls _ _ _ HA.out).mono ?_
  rintro e w1 ⟨rfl, d1⟩
  go_wp2_with fail
  go_ret2
  exact ⟨rfl, d1⟩

set_option maxRecDepth 100000 in
theorem read_cmp (w : World) (B : Nat) (o m a t x r : Int) (s up : Bool) (h : IsT w B o m s) (hA : timer_Has.f a = some true) (h4 : Go.bits .and .u32 a 4 = x) (hx : (x != 0) = up) (h7 : Go.bits .andNot .u32 a 7 = 33570816) (hh : timer_half.f m up = some r) :
    Calls Tryd.prog 43 #[.pointer (some ⟨B, 0, none⟩), .int .u32 a, .int .u64 t] w fun e w' => e = .returned (.tuple #[.int .u32 r, .int .i64 0]) ∧ Drawn0 w w' := by
  have HA := Aside0.mk hA; have HH := Aside0.mk hh; have H := Aside0.mk h
  clear hA hh h
  go_enter Tryd.func43, Tryd.ntmps43
  go_wp2_with fail
  refine (timer_Has.calls _ _ _ HA.out).mono ?_
  rintro e w1 ⟨rfl, d1⟩
  have H1 := Aside0.mk (H.out.drawn d1)
  have D1 := Aside0.mk d1
  have c1 := H1.out.c1
  clear d1
  go_wp2_with fail
  refine (timer_half.calls _ _ _ _ HH.out).mono ?_
  rintro e w2 ⟨rfl, d2⟩
  have D2 := Aside0.mk (drawn_trans D1.out d2)
  clear d2 c1
  go_wp2_with fail
  go_ret2
  exact ⟨rfl, D2.out⟩

set_option maxRecDepth 100000 in
theorem read_soft (w : World) (B : Nat) (o m a t x : Int) (s : Bool) (h : IsT w B o m s) (hA : timer_Has.f a = some true) (h4 : Go.bits .and .u32 a 4 = x) (h7 : Go.bits .andNot .u32 a 7 = 33554432) :
    Calls Tryd.prog 43 #[.pointer (some ⟨B, 0, none⟩), .int .u32 a, .int .u64 t] w fun e w' => e = .returned (.tuple #[.int .u32 (if s = true then 1 else 0), .int .i64 0]) ∧ Drawn0 w w' := by
  have HA := Aside0.mk hA; have H := Aside0.mk h
  clear hA h
  cases s
  all_goals
    go_enter Tryd.func43, Tryd.ntmps43
    go_wp2_with fail
    refine (timer_Has.calls _ _ _ HA.out).mono ?_
    rintro e w1 ⟨rfl, d1⟩
    have H1 := Aside0.mk (H.out.drawn d1)
    have D1 := Aside0.mk d1
    have c1 := H1.out.c2
    clear d1
    go_wp2_with fail
    go_ret2
    exact ⟨rfl, D1.out⟩

set_option maxRecDepth 100000 in
theorem read_time (w : World) (B : Nat) (o m a t x r : Int) (s up : Bool) (h : IsT w B o m s) (hA : timer_Has.f a = some true) (h4 : Go.bits .and .u32 a 4 = x) (hx : (x != 0) = up) (h7 : Go.bits .andNot .u32 a 7 = 33603576) (hh : timer_half.f (tnow t o) up = some r) :
    Calls Tryd.prog 43 #[.pointer (some ⟨B, 0, none⟩), .int .u32 a, .int .u64 t] w fun e w' => e = .returned (.tuple #[.int .u32 r, .int .i64 0]) ∧ Drawn0 w w' := by
  have HA := Aside0.mk hA; have HH := Aside0.mk hh; have H := Aside0.mk h
  clear hA hh h
  go_enter Tryd.func43, Tryd.ntmps43
  go_wp2_with fail
  refine (timer_Has.calls _ _ _ HA.out).mono ?_
  rintro e w1 ⟨rfl, d1⟩
  have H1 := Aside0.mk (H.out.drawn d1)
  have D1 := Aside0.mk d1
  clear d1
  go_wp2_with fail
  refine (now_calls _ _ _ _ _ _ H1.out).mono ?_
  rintro e w2 ⟨rfl, d2⟩
  have D2 := Aside0.mk (drawn_trans D1.out d2)
  clear d2
  go_wp2_with fail
  refine (timer_half.calls _ _ _ _ HH.out).mono ?_
  rintro e w3 ⟨rfl, d3⟩
  have D3 := Aside0.mk (drawn_trans D2.out d3)
  clear d3
  go_wp2_with fail
  go_ret2
  exact ⟨rfl, D3.out⟩

/-- A number's half. -/
theorem half_num (n : Int) (up : Bool) (h0 : 0 ≤ n) (h1 : n < 18446744073709551616) : timer_half.f n up = some (if up = true then n / 4294967296 else n % 4294967296) := by
  unfold timer_half.f
  cases up
  · rfl
  · rw [if_pos rfl, if_pos rfl, Option.some.injEq]; omega

/-- The registers. -/
def regs : List Int := [33554432, 33570816, 33570820, 33603576, 33603580]
theorem has_yes (a : Int) (h : a ∈ regs) : timer_Has.f a = some true := by
  simp only [regs, List.mem_cons, List.not_mem_nil, or_false] at h
  rcases h with rfl | rfl | rfl | rfl | rfl <;> rfl
theorem has_no (a : Int) (h : a ∉ regs) : timer_Has.f a = some false := by
  simp only [regs, List.mem_cons, List.not_mem_nil, or_false, not_or] at h
  obtain ⟨h1, h2, h3, h4, h5⟩ := h
  unfold timer_Has.f
  rw [if_neg h1, if_neg h2, if_neg h3, if_neg h4, if_neg h5]

/-- What a register says. -/
def rval (o m a t : Int) (s : Bool) : Int :=
  if a = 33570816 then m % 4294967296 else if a = 33570820 then m / 4294967296 else if a = 33603576 then tnow t o % 4294967296 else if a = 33603580 then tnow t o / 4294967296 else if s = true then 1 else 0
theorem tnow_lt (t o : Int) : 0 ≤ tnow t o ∧ tnow t o < 18446744073709551616 := by
  unfold tnow
  rw [show IntKind.u64.wrap (t + o) = (t + o) % 18446744073709551616 by simp [IntKind.wrap, IntKind.bits, IntKind.signed]]
  omega
theorem tread_calls (w : World) (B : Nat) (o m a t : Int) (s : Bool) (h : IsT w B o m s) (ha : a ∈ regs) (m0 : 0 ≤ m) (m1 : m < 18446744073709551616) :
    Calls Tryd.prog 43 #[.pointer (some ⟨B, 0, none⟩), .int .u32 a, .int .u64 t] w fun e w' => e = .returned (.tuple #[.int .u32 (rval o m a t s), .int .i64 0]) ∧ Drawn0 w w' := by
  have hA := has_yes a ha
  obtain ⟨n0, n1⟩ := tnow_lt t o
  simp only [regs, List.mem_cons, List.not_mem_nil, or_false] at ha
  rcases ha with rfl | rfl | rfl | rfl | rfl
  · exact read_soft w B o m _ t _ s h hA rfl (by kernel_rfl)
  · exact read_cmp w B o m _ t 0 _ s false h hA (by kernel_rfl) rfl (by kernel_rfl) (half_num m false m0 m1)
  · exact read_cmp w B o m _ t 4 _ s true h hA (by kernel_rfl) rfl (by kernel_rfl) (half_num m true m0 m1)
  · exact read_time w B o m _ t 0 _ s false h hA (by kernel_rfl) rfl (by kernel_rfl) (half_num _ false n0 n1)
  · exact read_time w B o m _ t 4 _ s true h hA (by kernel_rfl) rfl (by kernel_rfl) (half_num _ true n0 n1)

end Go.Proofs.YtdalboofhckobaaDoor

namespace Go.Proofs.YtdalboofhckobaaDoor
open Go Go.RowKit Go.Proofs.YtdalboofhckobaaDoor.QBusPlays Go.Proofs.YtdalboofhckobaaDoorW.PrintWords
set_option linter.unusedVariables false
set_option linter.unusedSimpArgs false

set_option maxRecDepth 100000 in
theorem tput_hi (w : World) (A X : Nat) (a x n r y : Int) (ha : w.cell? ⟨A, 0, none⟩ = some (.int .u32 a)) (hx : w.cell? ⟨X, 0, none⟩ = some (.int .u32 x)) (h4 : Go.bits .and .u32 a 4 = y) (hy : (y != 0) = true)
    (hr : Go.bits .or .u64 (Go.bits .and .u64 n 4294967295) (IntKind.u64.wrap (IntKind.u64.wrap x * 4294967296)) = r) :
    Calls Tryd.prog 64 #[.int .u64 n, .pointer (some ⟨A, 0, none⟩), .pointer (some ⟨X, 0, none⟩)] w fun e w' => e = .returned (.int .u64 r) ∧ Drawn0 w w' := by
  go_enter Tryd.func64, Tryd.ntmps64
  go_wp2
  go_ret
  exact ⟨rfl, Drawn0.refl _⟩

set_option maxRecDepth 100000 in
theorem tput_lo (w : World) (A X : Nat) (a x n r y : Int) (ha : w.cell? ⟨A, 0, none⟩ = some (.int .u32 a)) (hx : w.cell? ⟨X, 0, none⟩ = some (.int .u32 x)) (h4 : Go.bits .and .u32 a 4 = y) (hy : (y != 0) = false)
    (hr : Go.bits .or .u64 (Go.bits .andNot .u64 n 4294967295) (IntKind.u64.wrap x) = r) :
    Calls Tryd.prog 64 #[.int .u64 n, .pointer (some ⟨A, 0, none⟩), .pointer (some ⟨X, 0, none⟩)] w fun e w' => e = .returned (.int .u64 r) ∧ Drawn0 w w' := by
  go_enter Tryd.func64, Tryd.ntmps64
  go_wp2
  go_ret
  exact ⟨rfl, Drawn0.refl _⟩

/-- What the closure makes of a number. -/
def wput (up : Bool) (n x : Int) : Int := if up = true then Go.bits .or .u64 (Go.bits .and .u64 n 4294967295) (IntKind.u64.wrap (IntKind.u64.wrap x * 4294967296)) else Go.bits .or .u64 (Go.bits .andNot .u64 n 4294967295) (IntKind.u64.wrap x)
theorem tput_calls (w : World) (A X : Nat) (a x n r y : Int) (up : Bool) (ha : w.cell? ⟨A, 0, none⟩ = some (.int .u32 a)) (hx : w.cell? ⟨X, 0, none⟩ = some (.int .u32 x)) (h4 : Go.bits .and .u32 a 4 = y) (hy : (y != 0) = up) (hr : wput up n x = r) :
    Calls Tryd.prog 64 #[.int .u64 n, .pointer (some ⟨A, 0, none⟩), .pointer (some ⟨X, 0, none⟩)] w fun e w' => e = .returned (.int .u64 r) ∧ Drawn0 w w' := by
  cases up
  · exact tput_lo w A X a x n r y ha hx h4 hy hr
  · exact tput_hi w A X a x n r y ha hx h4 hy hr

/-- A world with the two boxes. -/
@[reducible] def wboxes (w : World) (a x : Int) : World := (w.alloc (.cells #[.int .u32 a] 22)).alloc (.cells #[.int .u32 x] 22)
theorem wboxes_below (w : World) (a x : Int) : Below w.heap.size w (wboxes w a x) := below_alloc (below_alloc (Below.refl w.heap.size w) _) _
theorem wboxes_a (w : World) (a x : Int) (n : Nat) : ((wboxes w a x).drewN n).cell? ⟨w.heap.size, 0, none⟩ = some (.int .u32 a) :=
  (blk_cell (w := (wboxes w a x).drewN n) (show ((wboxes w a x).drewN n).heap[w.heap.size]? = _ from blk_below (w := w.alloc (.cells #[.int .u32 a] 22)) (w' := wboxes w a x) (blk_new w (.cells #[.int .u32 a] 22)) (below_alloc (Below.refl (w.alloc (.cells #[.int .u32 a] 22)).heap.size (w.alloc (.cells #[.int .u32 a] 22))) (.cells #[.int .u32 x] 22))) 0).trans rfl
theorem wboxes_x (w : World) (a x : Int) (n : Nat) : ((wboxes w a x).drewN n).cell? ⟨w.heap.size + 1, 0, none⟩ = some (.int .u32 x) :=
  (blk_cell (w := (wboxes w a x).drewN n) (show ((wboxes w a x).drewN n).heap[w.heap.size + 1]? = _ by
    have := blk_new (w.alloc (.cells #[.int .u32 a] 22)) (.cells #[.int .u32 x] 22)
    rw [show (w.alloc (.cells #[.int .u32 a] 22)).heap.size = w.heap.size + 1 from Array.size_push _] at this
    exact this) 0).trans rfl

set_option maxRecDepth 100000 in
theorem twrite_no (w : World) (B : Nat) (o m a x t : Int) (s : Bool) (h : IsT w B o m s) (hA : timer_Has.f a = some false) :
    Calls Tryd.prog 40 #[.pointer (some ⟨B, 0, none⟩), .int .u32 a, .int .u32 x, .int .u64 t] w fun e w' => e = .returned (.int .i64 6) ∧ Below w.heap.size w w' := by
  have HA := Aside0.mk hA
  have HB := Aside0.mk (below_alloc (below_alloc (Below.refl w.heap.size w) (.cells #[.int .u32 a] 22)) (.cells #[.int .u32 x] 22))
  clear hA h
  go_enter Tryd.func40, Tryd.ntmps40
  go_wp2_with fail
  refine (timer_Has.calls _ _ _ HA.out).mono ?_
  rintro e w1 ⟨rfl, d1⟩
  have H1 := Aside0.mk (drawn_below' HB.out d1)
  clear d1
  go_wp2_with fail
  go_ret
  exact ⟨rfl, H1.out⟩

set_option maxRecDepth 100000 in
theorem twrite_cmp (w : World) (B : Nat) (o m a x t y r : Int) (s up : Bool) (h : IsT w B o m s) (hA : timer_Has.f a = some true) (h4 : Go.bits .and .u32 a 4 = y) (hy : (y != 0) = up) (h7 : Go.bits .andNot .u32 a 7 = 33570816) (hr : wput up m x = r) :
    Calls Tryd.prog 40 #[.pointer (some ⟨B, 0, none⟩), .int .u32 a, .int .u32 x, .int .u64 t] w fun e w' => e = .returned (.int .i64 0) ∧ IsT w' B o r s ∧ Only B w w' := by
  have HA := Aside0.mk hA
  have hT := h.below (wboxes_below w a x)
  have HO := Aside0.mk (Only.of_below (B := B) (wboxes_below w a x))
  have P := Aside0.mk (fun n => tput_calls ((wboxes w a x).drewN n) w.heap.size (w.heap.size + 1) a x m r y up (wboxes_a w a x n) (wboxes_x w a x n) h4 hy hr)
  have HI := Aside0.mk (fun n => (hT.drewN n).set1 r)
  have HP := Aside0.mk (fun n => (HO.out.drewN n).setCell 1 (.int .u64 r))
  have c1 := hT.c1
  have z1 := hT.fz 1
  clear hA hr h4 hy hT
  go_enter Tryd.func40, Tryd.ntmps40
  go_wp2_with fail
  refine (timer_Has.calls _ _ _ HA.out).mono ?_
  rintro e w1 ⟨rfl, ⟨nd, rfl⟩⟩
  go_wp2_with fail
  refine (P.out nd).mono ?_
  rintro e w1 ⟨rfl, ⟨ne, rfl⟩⟩
  go_wp2_with fail
  go_ret
  exact ⟨rfl, HI.out (nd + ne), HP.out (nd + ne)⟩

set_option maxRecDepth 100000 in
theorem twrite_soft (w : World) (B : Nat) (o m a x t y : Int) (s q : Bool) (h : IsT w B o m s) (hA : timer_Has.f a = some true) (h7 : Go.bits .andNot .u32 a 7 = 33554432) (hq : Go.bits .and .u32 x 1 = y) (hy : (y == 1) = q) :
    Calls Tryd.prog 40 #[.pointer (some ⟨B, 0, none⟩), .int .u32 a, .int .u32 x, .int .u64 t] w fun e w' => e = .returned (.int .i64 0) ∧ IsT w' B o m q ∧ Only B w w' := by
  have HA := Aside0.mk hA
  have hT := h.below (wboxes_below w a x)
  have HO := Aside0.mk (Only.of_below (B := B) (wboxes_below w a x))
  clear hA
  go_enter Tryd.func40, Tryd.ntmps40
  go_wp2_with fail
  refine (timer_Has.calls _ _ _ HA.out).mono ?_
  rintro e w1 ⟨rfl, ⟨nd, rfl⟩⟩
  have H1 := Aside0.mk (hT.drewN nd)
  have z1 := H1.out.fz 2
  have c1 := H1.out.c2
  have HI := Aside0.mk ((H1.out).set2 q)
  have HP := Aside0.mk ((HO.out.drewN nd).setCell 2 (.bool q))
  clear hT
  go_wp2_with fail
  go_ret
  exact ⟨rfl, HI.out, HP.out⟩

set_option maxRecDepth 100000 in
theorem twrite_time (w : World) (B : Nat) (o m a x t y r : Int) (s up : Bool) (h : IsT w B o m s) (hA : timer_Has.f a = some true) (h4 : Go.bits .and .u32 a 4 = y) (hy : (y != 0) = up) (h7 : Go.bits .andNot .u32 a 7 = 33603576) (hr : wput up (tnow t o) x = r) :
    Calls Tryd.prog 40 #[.pointer (some ⟨B, 0, none⟩), .int .u32 a, .int .u32 x, .int .u64 t] w fun e w' => e = .returned (.int .i64 0) ∧ IsT w' B (IntKind.u64.wrap (r - t)) m s ∧ Only B w w' := by
  have HA := Aside0.mk hA
  have hT := h.below (wboxes_below w a x)
  have HO := Aside0.mk (Only.of_below (B := B) (wboxes_below w a x))
  have P := Aside0.mk (fun n => tput_calls ((wboxes w a x).drewN n) w.heap.size (w.heap.size + 1) a x (tnow t o) r y up (wboxes_a w a x n) (wboxes_x w a x n) h4 hy hr)
  obtain ⟨q, hq⟩ : ∃ q, IntKind.u64.wrap (r - t) = q := ⟨_, rfl⟩
  rw [hq]
  have HI := Aside0.mk (fun n => (hT.drewN n).set0 q)
  have HP := Aside0.mk (fun n => (HO.out.drewN n).setCell 0 (.int .u64 q))
  have HT := Aside0.mk hT
  have HQ := Aside0.mk hq
  have c1 := hT.c0
  have z1 := hT.fz 0
  clear hA hr h4 hy hT hq
  go_enter Tryd.func40, Tryd.ntmps40
  go_wp2_with fail
  refine (timer_Has.calls _ _ _ HA.out).mono ?_
  rintro e w1 ⟨rfl, ⟨nd, rfl⟩⟩
  go_wp2_with fail
  refine (now_calls _ B o m t s (HT.out.drewN nd)).mono ?_
  rintro e w1 ⟨rfl, ⟨ne, rfl⟩⟩
  go_wp2_with fail
  refine (P.out (nd + ne)).mono ?_
  rintro e w1 ⟨rfl, ⟨nf, rfl⟩⟩
  have hq := HQ.out
  go_wp2_with fail
  go_ret
  exact ⟨rfl, HI.out (nd + ne + nf), HP.out (nd + ne + nf)⟩

theorem wrap_u64 (n : Int) : IntKind.u64.wrap n = n % 18446744073709551616 := by simp [IntKind.wrap, IntKind.bits, IntKind.signed]
theorem wraps_u64 (n : Int) (h₀ : 0 ≤ n) (h₁ : n < 2 ^ 64) : IntKind.u64.wrap n = n := by rw [wrap_u64]; omega
theorem and_low (n : Int) (h0 : 0 ≤ n) (h1 : n < 18446744073709551616) : Go.bits .and .u64 n 4294967295 = n % 4294967296 := bits_mask .u64 64 (by decide) wraps_u64 32 (by decide) n h0 h1
theorem andNot_low (n : Int) (h0 : 0 ≤ n) (h1 : n < 18446744073709551616) : Go.bits .andNot .u64 n 4294967295 = n / 4294967296 * 4294967296 := by
  obtain ⟨k, rfl⟩ := Int.eq_ofNat_of_zero_le h0
  have hk : k < 18446744073709551616 := by omega
  rw [show (4294967295 : Int) = ((4294967295 : Nat) : Int) from rfl, u64_andNot_nat k 4294967295 hk (by decide)]
  rw [show 18446744073709551615 - 4294967295 = (2 ^ 32 - 1) * 2 ^ 32 from rfl, Bit.and_field]
  have : k / 2 ^ 32 % 2 ^ 32 = k / 4294967296 := by omega
  rw [this]
  omega
theorem or_join (x y : Int) (hx : 0 ≤ x) (hx' : x < 4294967296) (hy : 0 ≤ y) (hy' : y < 4294967296) : Go.bits .or .u64 (x * 4294967296) y = x * 4294967296 + y :=
  bits_join .u64 64 (by decide) wraps_u64 32 (x * 4294967296) y (by omega) (by omega) (by omega) hy (by omega) (by omega)
theorem or_comm64 (x y : Int) (h1 : 0 ≤ x) (h2 : x < 18446744073709551616) (h3 : 0 ≤ y) (h4 : y < 18446744073709551616) : Go.bits .or .u64 x y = Go.bits .or .u64 y x := by
  rw [u64_or x y h1 h2 h3 h4, u64_or y x h3 h4 h1 h2, Nat.or_comm]
/-- In plain numbers. -/
theorem wput_eq (up : Bool) (n x : Int) (h0 : 0 ≤ n) (h1 : n < 18446744073709551616) (x0 : 0 ≤ x) (x1 : x < 4294967296) : wput up n x = if up = true then x * 4294967296 + n % 4294967296 else n / 4294967296 * 4294967296 + x := by
  have e1 : IntKind.u64.wrap x = x := wraps_u64 x x0 (by omega)
  have e2 : IntKind.u64.wrap (x * 4294967296) = x * 4294967296 := wraps_u64 _ (by omega) (by omega)
  unfold wput
  rw [e1, e2, and_low n h0 h1, andNot_low n h0 h1]
  cases up
  · rw [if_neg (by simp), if_neg (by simp), or_join _ _ (by omega) (by omega) x0 x1]
  · rw [if_pos rfl, if_pos rfl, or_comm64 _ _ (by omega) (by omega) (by omega) (by omega), or_join _ _ x0 x1 (by omega) (by omega)]

/-- What a write to a register leaves. -/
def twO (o m a x t : Int) : Int := if a = 33603576 then IntKind.u64.wrap (wput false (tnow t o) x - t) else if a = 33603580 then IntKind.u64.wrap (wput true (tnow t o) x - t) else o
def twM (m a x : Int) : Int := if a = 33570816 then wput false m x else if a = 33570820 then wput true m x else m
def twS (s : Bool) (a x : Int) : Bool := if a = 33554432 then x % 2 == 1 else s
theorem twrite_calls (w : World) (B : Nat) (o m a x t : Int) (s : Bool) (h : IsT w B o m s) (ha : a ∈ regs) (x0 : 0 ≤ x) (x1 : x < 4294967296) :
    Calls Tryd.prog 40 #[.pointer (some ⟨B, 0, none⟩), .int .u32 a, .int .u32 x, .int .u64 t] w fun e w' => e = .returned (.int .i64 0) ∧ IsT w' B (twO o m a x t) (twM m a x) (twS s a x) ∧ Only B w w' := by
  have hA := has_yes a ha
  simp only [regs, List.mem_cons, List.not_mem_nil, or_false] at ha
  have hx : Go.bits .and .u32 x 1 = x % 2 := bits_mask .u32 32 (by decide) (fun n h0 h1 => by simp [IntKind.wrap, IntKind.bits, IntKind.signed]; omega) 1 (by decide) x x0 x1
  rcases ha with rfl | rfl | rfl | rfl | rfl
  · exact twrite_soft w B o m _ x t (x % 2) s (x % 2 == 1) h hA (by kernel_rfl) hx rfl
  · exact twrite_cmp w B o m _ x t 0 _ s false h hA (by kernel_rfl) rfl (by kernel_rfl) rfl
  · exact twrite_cmp w B o m _ x t 4 _ s true h hA (by kernel_rfl) rfl (by kernel_rfl) rfl
  · exact twrite_time w B o m _ x t 0 _ s false h hA (by kernel_rfl) rfl (by kernel_rfl) rfl
  · exact twrite_time w B o m _ x t 4 _ s true h hA (by kernel_rfl) rfl (by kernel_rfl) rfl

end Go.Proofs.YtdalboofhckobaaDoor
