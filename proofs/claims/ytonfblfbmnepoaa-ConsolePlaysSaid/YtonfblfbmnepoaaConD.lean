/- The console: New, Read, Write. -/
import Derived.Test.YtonfblfbmnepoaaConC
import Derived.Deep.LoopGhost
namespace Go.Proofs.Ytonfblfbmnepoaa
open Go Go.RowKit Go.Proofs.YtonfblfbmnepoaaW.PrintWords Go.Proofs.Ytonfblfbmnepoaa.FifoPlain
set_option linter.unusedVariables false
set_option linter.unusedSimpArgs false

section
variable {X : Nat → Prop} {C F : Nat} {av vo : Value} {al : List (Int × Int)} {came : Nat} {q : List Int} {over : Bool} {out : List Int}

set_option maxRecDepth 100000 in
theorem read0_calls (w : World) (h : IsCon w X C F av vo al came q over out) : Calls Try.prog 34 #[.pointer (some ⟨C, 0, none⟩), .int .i64 0] w fun e w' => e = .returned (.tuple #[.int .u32 (q.headD 0), .int .i64 0]) ∧ IsCon w' X C F av vo al came q.tail over out ∧ Only F w w' := by
  have hmf : ∀ (fn : Fn) (first cap : Array Value) (w : World), (Instr.makeFunc fn first cap).run Try.prog w = .ok (.func fn first cap) w := fun _ _ _ _ => rfl
  have H := Aside0.mk (data_calls w h)
  clear h
  obtain ⟨x, hx⟩ : ∃ x, q.headD 0 = x := ⟨_, rfl⟩
  rw [hx] at H ⊢
  clear hx
  go_enter Try.func34, Try.ntmps34
  go_wp2_with fail
  refine H.out.mono ?_
  rintro e w1 ⟨rfl, h1, o1⟩
  have H1 := Aside0.mk h1
  clear h1
  go_wp2_with fail
  go_ret2
  exact ⟨rfl, H1.out, o1⟩
set_option maxRecDepth 100000 in
theorem read4_calls (w : World) (h : IsCon w X C F av vo al came q over out) : Calls Try.prog 34 #[.pointer (some ⟨C, 0, none⟩), .int .i64 4] w fun e w' => e = .returned (.tuple #[.int .u32 ((if 0 < q.length then 1 else 0) + (if over then 2 else 0)), .int .i64 0]) ∧ Drawn0 w w' := by
  have hmf : ∀ (fn : Fn) (first cap : Array Value) (w : World), (Instr.makeFunc fn first cap).run Try.prog w = .ok (.func fn first cap) w := fun _ _ _ _ => rfl
  have H := Aside0.mk (status_calls w h)
  clear h
  obtain ⟨x, hx⟩ : ∃ x : Int, (if 0 < q.length then 1 else 0) + (if over then 2 else 0) = x := ⟨_, rfl⟩
  rw [hx] at H ⊢
  clear hx
  go_enter Try.func34, Try.ntmps34
  go_wp2_with fail
  refine H.out.mono ?_
  rintro e w1 ⟨rfl, d1⟩
  go_wp2_with fail
  go_ret2
  exact ⟨rfl, d1⟩
set_option maxRecDepth 100000 in
theorem readx_calls (w : World) (C : Nat) (r : Int) (h0 : (r == 0) = false) (h4 : (r == 4) = false) : Calls Try.prog 34 #[.pointer (some ⟨C, 0, none⟩), .int .i64 r] w fun e w' => e = .returned (.tuple #[.int .u32 0, .int .i64 6]) ∧ Drawn0 w w' := by
  have hmf : ∀ (fn : Fn) (first cap : Array Value) (w : World), (Instr.makeFunc fn first cap).run Try.prog w = .ok (.func fn first cap) w := fun _ _ _ _ => rfl
  go_enter Try.func34, Try.ntmps34
  go_wp2_with fail
  all_goals go_ret2
  all_goals exact ⟨rfl, Drawn0.refl _⟩
set_option maxRecDepth 100000 in
theorem write0_calls (w : World) (x : Int) (h : IsCon w X C F av vo al came q over out) (x0 : 0 ≤ x) (x1 : x < 4294967296) (ho : out.length ≤ 65536) : Calls Try.prog 41 #[.pointer (some ⟨C, 0, none⟩), .int .i64 0, .int .u32 x] w fun e w' => e = .returned (.int .i64 0) ∧ (∃ X' vo', (∀ k, X k → X' k) ∧ (∀ k, X' k → X k ∨ w.heap.size ≤ k) ∧ IsCon w' X' C F av vo' al came q over (out ++ [x % 256])) ∧ OnlyP X w w' := by
  have hmf : ∀ (fn : Fn) (first cap : Array Value) (w : World), (Instr.makeFunc fn first cap).run Try.prog w = .ok (.func fn first cap) w := fun _ _ _ _ => rfl
  have H := Aside0.mk (send_calls w x h x0 x1 ho)
  clear h
  go_enter Try.func41, Try.ntmps41
  go_wp2_with fail
  refine H.out.mono ?_
  rintro e w1 ⟨rfl, h1⟩
  have H1 := Aside0.mk h1
  clear h1
  go_wp2_with fail
  go_ret
  exact ⟨rfl, H1.out⟩
set_option maxRecDepth 100000 in
theorem write4_calls (w : World) (x : Int) (h : IsCon w X C F av vo al came q over out) : Calls Try.prog 41 #[.pointer (some ⟨C, 0, none⟩), .int .i64 4, .int .u32 x] w fun e w' => e = .returned (.int .i64 0) ∧ IsCon w' X C F av vo al came q false out ∧ Only C w w' := by
  have hmf : ∀ (fn : Fn) (first cap : Array Value) (w : World), (Instr.makeFunc fn first cap).run Try.prog w = .ok (.func fn first cap) w := fun _ _ _ _ => rfl
  have H := Aside0.mk (heal_calls w x h)
  clear h
  go_enter Try.func41, Try.ntmps41
  go_wp2_with fail
  refine H.out.mono ?_
  rintro e w1 ⟨rfl, h1⟩
  have H1 := Aside0.mk h1
  clear h1
  go_wp2_with fail
  go_ret
  exact ⟨rfl, H1.out⟩
set_option maxRecDepth 100000 in
theorem writex_calls (w : World) (C : Nat) (r x : Int) (h0 : (r == 0) = false) (h4 : (r == 4) = false) : Calls Try.prog 41 #[.pointer (some ⟨C, 0, none⟩), .int .i64 r, .int .u32 x] w fun e w' => e = .returned (.int .i64 6) ∧ Drawn0 w w' := by
  have hmf : ∀ (fn : Fn) (first cap : Array Value) (w : World), (Instr.makeFunc fn first cap).run Try.prog w = .ok (.func fn first cap) w := fun _ _ _ _ => rfl
  go_enter Try.func41, Try.ntmps41
  go_wp2_with fail
  all_goals go_ret
  all_goals exact ⟨rfl, Drawn0.refl _⟩
end
end Go.Proofs.Ytonfblfbmnepoaa
