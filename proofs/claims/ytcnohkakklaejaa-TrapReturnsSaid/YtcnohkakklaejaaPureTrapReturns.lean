/- TrapReturns in plain numbers: any registers behind the way back. -/
import Derived.Test.YtcnohkakklaejaaWalkTrapReturns
import Derived.Test.YtcnohkakklaejaaFTrapQTrapReturns
namespace Go.Proofs.Ytcnohkakklaejaa.TrapReturnsWalk
open Go Go.RowKit Go.Proofs.Ytcnohkakklaejaa.QTrapReturns Go.Proofs.YtcnohkakklaejaaW.PrintWords Go.Proofs.YtcnohkakklaejaaW.PrintLast Go.Proofs.YtcnohkakklaejaaW.PrintMore Go.Proofs.Ytcnohkakklaejaa.Bit Go.Proofs.Ytcnohkakklaejaa.FQTrapReturns
set_option linter.unusedVariables false

theorem awake_at : mimesislaw17_awake.f 30 = some true := by kernel_rfl
theorem awake (k : Nat) (hk : 30 ≤ k) : mimesislaw17_awake.f k = some true :=
  at_rounds (g := mimesislaw17_awake.f) mimesislaw17_awake.mono hk awake_at

/-- The status behind the way back. -/
theorem status (s : Nat) (hs : s < 4294967296) : Go.bits .or .u32 (Go.bits .or .u32 (Go.bits .andNot .u32 (s : Int) 8) ((Go.bits .and .u32 (s : Int) 128) / 16)) 128 = ((setBit (setBit s 3 (s / 128 % 2)) 7 1 : Nat) : Int) := by
  rw [andNot8 s hs, and128 s hs]
  have e : (((s / 128 % 2 * 128 : Nat) : Int) / 16) = ((s / 128 % 2 * 8 : Nat) : Int) := by omega
  rw [e]
  have h1 := or_bit (s - s / 8 % 2 * 8) 3 (s / 128 % 2) (by omega) (by have : (2 : Nat) ^ 3 = 8 := rfl; omega) (by decide) (by omega)
  rw [show (2 : Nat) ^ 3 = 8 from rfl] at h1
  rw [h1]
  have h2 := or_128 (s - s / 8 % 2 * 8 + s / 128 % 2 * 8) (by omega)
  rw [h2]
  unfold setBit
  rw [Int.natCast_inj]
  simp only [show (2 : Nat) ^ 3 = 8 from rfl, show (2 : Nat) ^ 7 = 128 from rfl]
  omega

theorem trap_returns (a0 a1 a2 a3 a4 a5 a6 : Int) (W : World) (u0 : (Lit.int .u32 a0).wf = true) (_u1 : (Lit.int .u32 a1).wf = true) (_u2 : (Lit.int .u32 a2).wf = true) (_u3 : (Lit.int .u32 a3).wf = true) (_u4 : (Lit.int .u32 a4).wf = true) (_u5 : (Lit.int .u32 a5).wf = true) (_u6 : (Lit.int .u32 a6).wf = true) :
    Calls Try.prog 5 #[.agg #[.int .u32 a0, .int .u32 a1, .int .u32 a2, .int .u32 a3, .int .u32 a4, .int .u32 a5, .int .u32 a6]] W fun e w' => e = .returned (.bool true) ∧ Below W.heap.size W w' := by
  obtain ⟨s, rfl, hs⟩ := wf_u32 u0
  obtain ⟨k, hk⟩ : ∃ k, 60 ≤ k := ⟨60, Nat.le_refl _⟩
  have hl := setBit_lt s 3 (s / 128 % 2) hs (by decide)
  refine walk k _ _ _ _ _ _ _ _ _ _ W (bit_ref s 7 k hs (by decide) (by omega)) (put_bit s 3 _ k hs (by omega) (by decide) (by omega)) (put_bit _ 7 1 k hl (by decide) (by decide) (by omega)) ?_ (awake k (by omega))
  unfold trap_Return.f
  rw [status s hs]

end Go.Proofs.Ytcnohkakklaejaa.TrapReturnsWalk
