/-
  WordNumbers: for every list of bytes the program's Number is the reference's, or tells that there is none of so many. No condition.
-/
import Derived.Test.YtcnohkakklaejaaPWordNumbersx2
import Derived.Test.YtcnohkakklaejaaFNumPWordNumbers
import Derived.Test.YtcnohkakklaejaaSiz
namespace Go.Proofs.Ytcnohkakklaejaa.Pure
open Go Go.RowKit Go.Proofs.Ytcnohkakklaejaa.PWordNumbers Go.Proofs.YtcnohkakklaejaaW.PrintWords Go.Proofs.YtcnohkakklaejaaW.PrintLast Go.Proofs.YtcnohkakklaejaaW.PrintMore Go.Proofs.Ytcnohkakklaejaa.Bit Go.Proofs.Ytcnohkakklaejaa.FPWordNumbers
set_option linter.unusedVariables false

theorem wn_awake_at : mimesislaw01_awake.f 20 = some true := by kernel_rfl
theorem wn_awake (k : Nat) (hk : 20 ≤ k) : mimesislaw01_awake.f k = some true :=
  at_rounds (g := mimesislaw01_awake.f) mimesislaw01_awake.mono hk wn_awake_at

theorem WordNumbers : mimesislaw01_WordNumbers.Pure := by
  intro l hl _ hw
  obtain ⟨m, rfl, hm⟩ := of_u8 l hw
  obtain ⟨k, hk⟩ : ∃ k, 60 ≤ k := ⟨60, Nat.le_refl _⟩
  refine ⟨k, ?_⟩
  unfold mimesislaw01_WordNumbers.f
  have ha := wn_awake k (by omega)
  by_cases h : (m.length : Int) = 1 ∨ (m.length : Int) = 2 ∨ (m.length : Int) = 4
  · rw [number_yes m hm h k (by omega)]; simp only [Option.bind_some]
    rw [ints_length, (width_yes h).2]; simp only [Option.bind_some, if_true]
    rw [refnum m hm (by omega) k (by omega)]; simp only [Option.bind_some, if_true]
    rw [ha]; rfl
  · rw [number_no _ (by rw [ints_length]; exact h) k]; simp only [Option.bind_some]
    rw [ints_length, (width_no h).2]; simp only [Option.bind_some, if_true]
    rw [if_neg (by decide), ha]; rfl

end Go.Proofs.Ytcnohkakklaejaa.Pure
