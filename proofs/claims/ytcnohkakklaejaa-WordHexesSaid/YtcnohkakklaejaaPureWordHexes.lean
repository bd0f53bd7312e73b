/-
  WordHexes: for every word its digits are the reference's and are read as it; for every text the program's number is the reference's, or both tell that there is none. No condition.
-/
import Derived.Test.YtcnohkakklaejaaPWordHexesx2
import Derived.Test.YtcnohkakklaejaaFHexPWordHexes
namespace Go.Proofs.Ytcnohkakklaejaa.Pure
open Go Go.RowKit Go.Proofs.Ytcnohkakklaejaa.PWordHexes Go.Proofs.YtcnohkakklaejaaW.PrintWords Go.Proofs.YtcnohkakklaejaaW.PrintLast Go.Proofs.YtcnohkakklaejaaW.PrintMore Go.Proofs.Ytcnohkakklaejaa.Bit Go.Proofs.Ytcnohkakklaejaa.FPWordHexes
set_option linter.unusedVariables false

theorem wh_awake_at : mimesislaw01_awake.f 20 = some true := by kernel_rfl
theorem wh_awake (k : Nat) (hk : 20 ≤ k) : mimesislaw01_awake.f k = some true :=
  at_rounds (g := mimesislaw01_awake.f) mimesislaw01_awake.mono hk wh_awake_at

theorem WordHexes : mimesislaw01_WordHexes.Pure := by
  intro a0 s w0 w1
  obtain ⟨w, rfl, hw⟩ := wf_u32 w0
  obtain ⟨k, hk⟩ : ∃ k, 70 ≤ k := ⟨70, Nat.le_refl _⟩
  refine ⟨k, ?_⟩
  have ha := wh_awake k (by omega)
  unfold mimesislaw01_WordHexes.f
  rw [hex w k hw (by omega)]; simp only [Option.bind_some]
  rw [(unhex _ k (by omega)).1, unhex_hex w hw]; simp only [Option.bind_some, Option.elim]
  rw [(unhex s k (by omega)).1, (unhex s k (by omega)).2]; simp only [Option.bind_some]
  rw [refhex w k hw (by omega)]; simp only [Option.bind_some, if_true, ha]
  cases unhexT s with
  | none => rfl
  | some r => simp

end Go.Proofs.Ytcnohkakklaejaa.Pure
