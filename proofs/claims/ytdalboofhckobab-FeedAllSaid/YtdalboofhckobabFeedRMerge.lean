/- The document's 'Merge': why it does not. -/
import Derived.Test.YtdalboofhckobabFeedIns
import Derived.Laws.AppendOwnNone
import Derived.Laws.OwnMore
namespace Go.Proofs.Ytdalboofhckobab
open Go Go.RowKit Go.Proofs.YtdalboofhckobabW.PrintWords
set_option linter.unusedVariables false
set_option linter.unusedSimpArgs false

set_option maxRecDepth 100000 in
set_option maxHeartbeats 4000000 in
theorem rmerge_form (w : World) (A B : Option Addr) (n m ca cb : Nat) (r0 r1 : Bool) (hr : (!r0 || !r1) = true)
    (ho0 : ∀ w', Below w.heap.size w w' → Calls Try.prog 19 #[.slice A n ca] w' fun e w2 => e = .returned (.bool r0) ∧ Drawn0 w' w2)
    (ho1 : ∀ w', Below w.heap.size w w' → Calls Try.prog 19 #[.slice B m cb] w' fun e w2 => e = .returned (.bool r1) ∧ Drawn0 w' w2) :
    Calls Try.prog 13 #[.slice A n ca, .slice B m cb] w fun e w' => e = .returned (.tuple #[.slice none 0 0, .int .i64 1]) ∧ Below w.heap.size w w' := by
  have O0 := Aside0.mk (ho0 w (Below.refl _ _))
  have O1 := Aside0.mk ho1
  clear ho0 ho1
  cases r0 with
  | false =>
    clear hr
    go_enter Try.func13, Try.ntmps13
    go_wp2_with fail
    refine O0.out.mono ?_
    rintro e w1 ⟨rfl, d1⟩
    have B1 := Aside0.mk d1.below
    clear d1
    go_wp2_with fail
    refine bodyPost_ret (results_tmp2 rfl _ _ _) rfl ?_
    exact ⟨rfl, B1.out⟩
  | true =>
    have : r1 = false := by simpa using hr
    subst this
    clear hr
    go_enter Try.func13, Try.ntmps13
    go_wp2_with fail
    refine O0.out.mono ?_
    rintro e w1 ⟨rfl, d1⟩
    have B1 := Aside0.mk d1.below
    clear d1
    go_wp2_with fail
    refine (O1.out _ B1.out).mono ?_
    rintro e w2 ⟨rfl, d1⟩
    have B2 := Aside0.mk (B1.out.trans (Below.mono d1.below B1.out.size))
    clear d1
    go_wp2_with fail
    refine bodyPost_ret (results_tmp2 rfl _ _ _) rfl ?_
    exact ⟨rfl, B2.out⟩
set_option maxRecDepth 100000 in
set_option maxHeartbeats 4000000 in
theorem rmerge_long (w : World) (A B : Option Addr) (n m ca cb : Nat) (hl : n + m > 256) (hn4 : n ≤ 400) (hm4 : m ≤ 400)
    (ho0 : ∀ w', Below w.heap.size w w' → Calls Try.prog 19 #[.slice A n ca] w' fun e w2 => e = .returned (.bool true) ∧ Drawn0 w' w2)
    (ho1 : ∀ w', Below w.heap.size w w' → Calls Try.prog 19 #[.slice B m cb] w' fun e w2 => e = .returned (.bool true) ∧ Drawn0 w' w2) :
    Calls Try.prog 13 #[.slice A n ca, .slice B m cb] w fun e w' => e = .returned (.tuple #[.slice none 0 0, .int .i64 3]) ∧ Below w.heap.size w w' := by
  have O0 := Aside0.mk (ho0 w (Below.refl _ _))
  have O1 := Aside0.mk ho1
  clear ho0 ho1
  have q1 : ((n : Int) + (m : Int) > 256) = True := by simp; omega
  clear hl
  go_enter Try.func13, Try.ntmps13
  go_wp2_with fail
  refine O0.out.mono ?_
  rintro e w1 ⟨rfl, d1⟩
  have B1 := Aside0.mk d1.below
  clear d1
  go_wp2_with fail
  refine (O1.out _ B1.out).mono ?_
  rintro e w2 ⟨rfl, d1⟩
  have B2 := Aside0.mk (B1.out.trans (Below.mono d1.below B1.out.size))
  clear d1
  go_wp2_with fail
  refine bodyPost_ret (results_tmp2 rfl _ _ _) rfl ?_
  exact ⟨rfl, B2.out⟩
end Go.Proofs.Ytdalboofhckobab
