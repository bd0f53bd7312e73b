/- The bits of the trap's registers, in plain numbers (over the functions of QTrapHears). -/
import Derived.Test.YtcnohkakklaejaaFPowerQTrapHears
namespace Go.Proofs.Ytcnohkakklaejaa.FQTrapHears
set_option linter.unusedVariables false
open Go Go.RowKit Go.Proofs.Ytcnohkakklaejaa.QTrapHears Go.Proofs.Ytcnohkakklaejaa.Bit Go.Proofs.YtcnohkakklaejaaW.PrintWords Go.Proofs.YtcnohkakklaejaaW.PrintMore

theorem bit_ref (s i k : Nat) (hs : s < 4294967296) (hi : i ≤ 31) (hk : 50 < k) : mimesisref17_bit.f k (s : Int) (i : Int) = some ((s / 2 ^ i % 2 : Nat) : Int) := by
  unfold mimesisref17_bit.f
  have := bits_ref s i 1 k hs (by omega) (by omega) (by omega) (by omega)
  rw [show ((1 : Nat) : Int) = 1 from rfl, show (2 : Nat) ^ 1 = 2 from rfl] at this
  rw [this]; rfl

end Go.Proofs.Ytcnohkakklaejaa.FQTrapHears
