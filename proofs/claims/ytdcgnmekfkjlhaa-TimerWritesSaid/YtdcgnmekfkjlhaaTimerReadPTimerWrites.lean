/- The timer's Read, by its contract (over the functions printed for PTimerWrites). -/
import Derived.Test.YtdcgnmekfkjlhaaTimerAwakePTimerWrites
namespace Go.Proofs.Ytdcgnmekfkjlhaa.TPTimerWrites
open Go Go.RowKit Go.Proofs.Ytdcgnmekfkjlhaa Go.Proofs.Ytdcgnmekfkjlhaa.PTimerWrites Go.Proofs.YtdcgnmekfkjlhaaW.PrintWords
set_option linter.unusedVariables false
set_option linter.unusedSimpArgs false

theorem drawn_trans {a b c : World} (h : Drawn0 a b) (k : Drawn0 b c) : Drawn0 a c := by
  obtain ⟨⟨n, rfl⟩⟩ := k
  exact h.step n

set_option maxRecDepth 100000 in
theorem read_no (w : World) (B : Nat) (o m a t : Int) (s : Bool) (hA : timer_Has.f a = some false) :
    Calls Try.prog 21 #[.pointer (some ⟨B, 0, none⟩), .int .u32 a, .int .u64 t] w fun e w' => e = .returned (.tuple #[.int .u32 0, .int .i64 6]) ∧ Drawn0 w w' := by
  have HA := Aside0.mk hA
  clear hA
  go_enter Try.func21, Try.ntmps21
  go_wp2_with fail
  refine (timer_Has.calls _ _ _ HA.out).mono ?_
  rintro e w1 ⟨rfl, d1⟩
  go_wp2_with fail
  go_ret2
  exact ⟨rfl, d1⟩

set_option maxRecDepth 100000 in
theorem read_cmp (w : World) (B : Nat) (o m a t x r : Int) (s up : Bool) (h : IsT w B o m s) (hA : timer_Has.f a = some true) (h4 : Go.bits .and .u32 a 4 = x) (hx : (x != 0) = up) (h7 : Go.bits .andNot .u32 a 7 = 33570816) (hh : timer_half.f m up = some r) :
    Calls Try.prog 21 #[.pointer (some ⟨B, 0, none⟩), .int .u32 a, .int .u64 t] w fun e w' => e = .returned (.tuple #[.int .u32 r, .int .i64 0]) ∧ Drawn0 w w' := by
  have HA := Aside0.mk hA; have HH := Aside0.mk hh; have H := Aside0.mk h
  clear hA hh h
  go_enter Try.func21, Try.ntmps21
  go_wp2_with fail
  refine (timer_Has.calls _ _ _ HA.out).mono ?_
  rintro e w1 ⟨rfl, d1⟩
  have H1 := Aside0.mk (H.out.drawn d1)
  have D1 := Aside0.mk d1
  have c1 := H1.out.c1
  clear d1
  go_wp2_with fail
  refine (timer_half.calls _ _ _ _ HH.out).mono ?_
  rintro e w2 ⟨rfl, d2⟩
  have D2 := Aside0.mk (drawn_trans D1.out d2)
  clear d2 c1
  go_wp2_with fail
  go_ret2
  exact ⟨rfl, D2.out⟩

set_option maxRecDepth 100000 in
theorem read_soft (w : World) (B : Nat) (o m a t x : Int) (s : Bool) (h : IsT w B o m s) (hA : timer_Has.f a = some true) (h4 : Go.bits .and .u32 a 4 = x) (h7 : Go.bits .andNot .u32 a 7 = 33554432) :
    Calls Try.prog 21 #[.pointer (some ⟨B, 0, none⟩), .int .u32 a, .int .u64 t] w fun e w' => e = .returned (.tuple #[.int .u32 (if s = true then 1 else 0), .int .i64 0]) ∧ Drawn0 w w' := by
  have HA := Aside0.mk hA; have H := Aside0.mk h
  clear hA h
  cases s
  all_goals
    go_enter Try.func21, Try.ntmps21
    go_wp2_with fail
    refine (timer_Has.calls _ _ _ HA.out).mono ?_
    rintro e w1 ⟨rfl, d1⟩
    have H1 := Aside0.mk (H.out.drawn d1)
    have D1 := Aside0.mk d1
    have c1 := H1.out.c2
    clear d1
    go_wp2_with fail
    go_ret2
    exact ⟨rfl, D1.out⟩

set_option maxRecDepth 100000 in
theorem read_time (w : World) (B : Nat) (o m a t x r : Int) (s up : Bool) (h : IsT w B o m s) (hA : timer_Has.f a = some true) (h4 : Go.bits .and .u32 a 4 = x) (hx : (x != 0) = up) (h7 : Go.bits .andNot .u32 a 7 = 33603576) (hh : timer_half.f (tnow t o) up = some r) :
    Calls Try.prog 21 #[.pointer (some ⟨B, 0, none⟩), .int .u32 a, .int .u64 t] w fun e w' => e = .returned (.tuple #[.int .u32 r, .int .i64 0]) ∧ Drawn0 w w' := by
  have HA := Aside0.mk hA; have HH := Aside0.mk hh; have H := Aside0.mk h
  clear hA hh h
  go_enter Try.func21, Try.ntmps21
  go_wp2_with fail
  refine (timer_Has.calls _ _ _ HA.out).mono ?_
  rintro e w1 ⟨rfl, d1⟩
  have H1 := Aside0.mk (H.out.drawn d1)
  have D1 := Aside0.mk d1
  clear d1
  go_wp2_with fail
  refine (now_calls _ _ _ _ _ _ H1.out).mono ?_
  rintro e w2 ⟨rfl, d2⟩
  have D2 := Aside0.mk (drawn_trans D1.out d2)
  clear d2
  go_wp2_with fail
  refine (timer_half.calls _ _ _ _ HH.out).mono ?_
  rintro e w3 ⟨rfl, d3⟩
  have D3 := Aside0.mk (drawn_trans D2.out d3)
  clear d3
  go_wp2_with fail
  go_ret2
  exact ⟨rfl, D3.out⟩

/-- A number's half. -/
theorem half_num (n : Int) (up : Bool) (h0 : 0 ≤ n) (h1 : n < 18446744073709551616) : timer_half.f n up = some (if up = true then n / 4294967296 else n % 4294967296) := by
  unfold timer_half.f
  cases up
  · rfl
  · rw [if_pos rfl, if_pos rfl, Option.some.injEq]; omega

/-- The registers. -/
def regs : List Int := [33554432, 33570816, 33570820, 33603576, 33603580]
theorem has_yes (a : Int) (h : a ∈ regs) : timer_Has.f a = some true := by
  simp only [regs, List.mem_cons, List.not_mem_nil, or_false] at h
  rcases h with rfl | rfl | rfl | rfl | rfl <;> rfl
theorem has_no (a : Int) (h : a ∉ regs) : timer_Has.f a = some false := by
  simp only [regs, List.mem_cons, List.not_mem_nil, or_false, not_or] at h
  obtain ⟨h1, h2, h3, h4, h5⟩ := h
  unfold timer_Has.f
  rw [if_neg h1, if_neg h2, if_neg h3, if_neg h4, if_neg h5]

/-- What a register says. -/
def rval (o m a t : Int) (s : Bool) : Int :=
  if a = 33570816 then m % 4294967296 else if a = 33570820 then m / 4294967296 else if a = 33603576 then tnow t o % 4294967296 else if a = 33603580 then tnow t o / 4294967296 else if s = true then 1 else 0
theorem tnow_lt (t o : Int) : 0 ≤ tnow t o ∧ tnow t o < 18446744073709551616 := by
  unfold tnow
  rw [show IntKind.u64.wrap (t + o) = (t + o) % 18446744073709551616 by simp [IntKind.wrap, IntKind.bits, IntKind.signed]]
  omega
theorem read_calls (w : World) (B : Nat) (o m a t : Int) (s : Bool) (h : IsT w B o m s) (ha : a ∈ regs) (m0 : 0 ≤ m) (m1 : m < 18446744073709551616) :
    Calls Try.prog 21 #[.pointer (some ⟨B, 0, none⟩), .int .u32 a, .int .u64 t] w fun e w' => e = .returned (.tuple #[.int .u32 (rval o m a t s), .int .i64 0]) ∧ Drawn0 w w' := by
  have hA := has_yes a ha
  obtain ⟨n0, n1⟩ := tnow_lt t o
  simp only [regs, List.mem_cons, List.not_mem_nil, or_false] at ha
  rcases ha with rfl | rfl | rfl | rfl | rfl
  · exact read_soft w B o m _ t _ s h hA rfl (by kernel_rfl)
  · exact read_cmp w B o m _ t 0 _ s false h hA (by kernel_rfl) rfl (by kernel_rfl) (half_num m false m0 m1)
  · exact read_cmp w B o m _ t 4 _ s true h hA (by kernel_rfl) rfl (by kernel_rfl) (half_num m true m0 m1)
  · exact read_time w B o m _ t 0 _ s false h hA (by kernel_rfl) rfl (by kernel_rfl) (half_num _ false n0 n1)
  · exact read_time w B o m _ t 4 _ s true h hA (by kernel_rfl) rfl (by kernel_rfl) (half_num _ true n0 n1)

end Go.Proofs.Ytdcgnmekfkjlhaa.TPTimerWrites
