/- TrapBack in plain numbers: the way back from any trap. -/
import Derived.Test.YtcnohkakklaejaaWalkTrapBack
import Derived.Test.YtcnohkakklaejaaBitW
namespace Go.Proofs.Ytcnohkakklaejaa.TrapBackWalk
open Go Go.RowKit Go.Proofs.Ytcnohkakklaejaa.PTrapBack Go.Proofs.YtcnohkakklaejaaW.PrintWords Go.Proofs.YtcnohkakklaejaaW.PrintLast Go.Proofs.YtcnohkakklaejaaW.PrintMore Go.Proofs.Ytcnohkakklaejaa.Bit Go.Proofs.Ytcnohkakklaejaa.BitW
set_option linter.unusedVariables false

theorem awake_at : mimesislaw17_awake.f 30 = some true := by kernel_rfl
theorem awake (k : Nat) (hk : 30 ≤ k) : mimesislaw17_awake.f k = some true :=
  at_rounds (g := mimesislaw17_awake.f) mimesislaw17_awake.mono hk awake_at

theorem heard_of (a0 b0 a1 a2 a3 a4 a5 a6 b2 b3 b4 b5 b6 n : Int) (h : (Go.bits .and .u32 a0 8 = 0) ↔ (Go.bits .and .u32 b0 8 = 0)) : trap_Heard.f a0 a1 a2 a3 a4 a5 a6 n = trap_Heard.f b0 a1 b2 b3 b4 b5 b6 n := by
  unfold trap_Heard.f
  by_cases h1 : Go.bits .and .u32 a0 8 = 0
  · rw [if_pos h1, if_pos (h.1 h1)]
  · rw [if_neg h1, if_neg (fun e => h1 (h.2 e))]
theorem heard_no (a0 a1 a2 a3 a4 a5 a6 n : Int) (h : Go.bits .and .u32 a0 8 = 0) : trap_Heard.f a0 a1 a2 a3 a4 a5 a6 n = some (0, false) := by
  unfold trap_Heard.f
  rw [if_pos h]
theorem heard_some (a0 a1 a2 a3 a4 a5 a6 n : Int) : ∃ c b, trap_Heard.f a0 a1 a2 a3 a4 a5 a6 n = some (c, b) := by
  unfold trap_Heard.f
  split
  · exact ⟨_, _, rfl⟩
  · split
    · split
      · split <;> exact ⟨_, _, rfl⟩
      · exact ⟨_, _, rfl⟩
    · exact ⟨_, _, rfl⟩

theorem enter_some (s : Nat) (hs : s < 4294967296) (a1 a2 a3 a4 a5 a6 pc c tv : Int) : ∃ at_, trap_Enter.f (s : Int) a1 a2 a3 a4 a5 a6 pc c tv = some (((st s : Nat) : Int), a1, a2, a3, pc, c, tv, at_) := by
  unfold trap_Enter.f
  rw [status s hs]
  split
  · split <;> exact ⟨_, rfl⟩
  · exact ⟨_, rfl⟩

theorem st_lt (s : Nat) (hs : s < 4294967296) : st s < 4294967296 ∧ st s / 8 % 2 = 0 ∧ st s / 128 % 2 = s / 8 % 2 := by
  have e1 : (s - s / 128 % 2 * 128 + s / 8 % 2 % 2 * 128) / 8 = s / 8 - s / 128 % 2 * 16 + s / 8 % 2 * 16 := by omega
  have e2 : (s / 8 - s / 128 % 2 * 16 + s / 8 % 2 * 16) % 2 = s / 8 % 2 := by omega
  have e : st s = s - s / 128 % 2 * 128 + s / 8 % 2 * 128 - s / 8 % 2 * 8 := by
    unfold st setBit
    simp only [show (2 : Nat) ^ 3 = 8 from rfl, show (2 : Nat) ^ 7 = 128 from rfl]
    rw [e1, e2]
    omega
  rw [e]
  refine ⟨by omega, ?_, ?_⟩
  · have : (s - s / 128 % 2 * 128 + s / 8 % 2 * 128 - s / 8 % 2 * 8) / 8 = s / 8 - s / 128 % 2 * 16 + s / 8 % 2 * 16 - s / 8 % 2 := by omega
    rw [this]; omega
  · have : (s - s / 128 % 2 * 128 + s / 8 % 2 * 128 - s / 8 % 2 * 8) / 128 = s / 128 - s / 128 % 2 + s / 8 % 2 := by omega
    rw [this]; omega

theorem trap_back (a0 a1 a2 a3 a4 a5 a6 pc c tv n : Int) (W : World) (u0 : (Lit.int .u32 a0).wf = true) (_u1 : (Lit.int .u32 a1).wf = true) (_u2 : (Lit.int .u32 a2).wf = true) (_u3 : (Lit.int .u32 a3).wf = true) (_u4 : (Lit.int .u32 a4).wf = true) (_u5 : (Lit.int .u32 a5).wf = true) (_u6 : (Lit.int .u32 a6).wf = true)
    (_v0 : (Lit.int .u32 pc).wf = true) (_v1 : (Lit.int .u32 c).wf = true) (_v2 : (Lit.int .u32 tv).wf = true) (_w2 : (Lit.int .u32 n).wf = true) :
    Calls Try.prog 10 #[.agg #[.int .u32 a0, .int .u32 a1, .int .u32 a2, .int .u32 a3, .int .u32 a4, .int .u32 a5, .int .u32 a6], .agg #[.int .u32 pc, .int .u32 c, .int .u32 tv], .int .u32 n] W fun e w' => e = .returned (.bool true) ∧ Below W.heap.size W w' := by
  obtain ⟨s, rfl, hs⟩ := wf_u32 u0
  obtain ⟨h1, h2, h3⟩ := st_lt s hs
  obtain ⟨at_, ha⟩ := enter_some s hs a1 a2 a3 a4 a5 a6 pc c tv
  have hy : setBit (setBit (st s) 3 (st s / 128 % 2)) 7 1 / 8 % 2 = s / 8 % 2 := by
    unfold setBit
    simp only [show (2 : Nat) ^ 3 = 8 from rfl, show (2 : Nat) ^ 7 = 128 from rfl]
    generalize st s = x at *
    rw [h2, h3, Nat.zero_mul, Nat.sub_zero]
    have e0 : (x + s / 8 % 2 % 2 * 8) / 128 = x / 128 := by omega
    rw [e0]
    have e1 : (x + s / 8 % 2 % 2 * 8 - x / 128 % 2 * 128 + 1 % 2 * 128) / 8 = x / 8 + s / 8 % 2 - x / 128 % 2 * 16 + 16 := by omega
    rw [e1]; omega
  have hyl : setBit (setBit (st s) 3 (st s / 128 % 2)) 7 1 < 4294967296 := by
    unfold setBit
    simp only [show (2 : Nat) ^ 3 = 8 from rfl, show (2 : Nat) ^ 7 = 128 from rfl]
    generalize st s = x at *
    rw [h2, Nat.zero_mul, Nat.sub_zero]
    have e0 : (x + x / 128 % 2 % 2 * 8) / 128 = x / 128 := by omega
    rw [e0]; omega
  obtain ⟨hc, hb, hh⟩ := heard_some (s : Int) a1 a2 a3 a4 a5 a6 n
  refine walk 60 _ _ _ _ _ _ _ _ _ _ _ _ ((setBit (setBit (st s) 3 (st s / 128 % 2)) 7 1 : Nat) : Int) _ hc 0 hb W ha (heard_no _ _ _ _ _ _ _ _ ?_) ?_ ?_ hh (awake 60 (by decide))
  · rw [and8 _ h1, h2]; rfl
  · unfold trap_Return.f
    rw [status_back _ h1]
  · rw [heard_of _ (s : Int) a1 _ _ _ _ _ a2 a3 a4 a5 a6 n ?_]
    · exact hh
    · rw [and8 _ hyl, and8 s hs, hy]

end Go.Proofs.Ytcnohkakklaejaa.TrapBackWalk
