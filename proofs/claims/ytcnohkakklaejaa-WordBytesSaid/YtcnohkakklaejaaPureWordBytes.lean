/-
  WordBytes: for every word and every number of bytes the program's Bytes are the reference's, and their Number is the word's lowest bits; or the program tells that there are none so many. No condition.
-/
import Derived.Test.YtcnohkakklaejaaPWordBytesx2
import Derived.Test.YtcnohkakklaejaaFNumPWordBytes
namespace Go.Proofs.Ytcnohkakklaejaa.Pure
open Go Go.RowKit Go.Proofs.Ytcnohkakklaejaa.PWordBytes Go.Proofs.YtcnohkakklaejaaW.PrintWords Go.Proofs.YtcnohkakklaejaaW.PrintLast Go.Proofs.YtcnohkakklaejaaW.PrintMore Go.Proofs.Ytcnohkakklaejaa.Bit Go.Proofs.Ytcnohkakklaejaa.FPWordBytes
set_option linter.unusedVariables false

theorem wb_awake_at : mimesislaw01_awake.f 20 = some true := by kernel_rfl
theorem wb_awake (k : Nat) (hk : 20 ≤ k) : mimesislaw01_awake.f k = some true :=
  at_rounds (g := mimesislaw01_awake.f) mimesislaw01_awake.mono hk wb_awake_at

theorem WordBytes : mimesislaw01_WordBytes.Pure := by
  intro a0 a1 w0 w1
  obtain ⟨w, rfl, hw⟩ := wf_u32 w0
  obtain ⟨k, hk⟩ : ∃ k, 60 ≤ k := ⟨60, Nat.le_refl _⟩
  refine ⟨k, ?_⟩
  unfold mimesislaw01_WordBytes.f
  have ha := wb_awake k (by omega)
  by_cases h : a1 = 1 ∨ a1 = 2 ∨ a1 = 4
  · obtain ⟨n, rfl⟩ : ∃ n : Nat, a1 = n := ⟨a1.toNat, by omega⟩
    rw [bytes_yes w n hw h k (by omega)]; simp only [Option.bind_some]
    rw [(width_yes h).2]; simp only [Option.bind_some, if_true]
    rw [number_yes _ (bytesL_lt w n) (by rw [bytesL_length]; exact h) k (by omega)]; simp only [Option.bind_some, if_true]
    rw [refbytes w n hw (by omega) k (by omega)]; simp only [Option.bind_some]
    rw [same_self _ (by rw [ints_length, bytesL_length]; omega) k (by rw [ints_length, bytesL_length]; omega)]; simp only [Option.bind_some, if_true]
    rw [show wrap64 (8 * (n : Int)) = ((8 * n : Nat) : Int) by unfold wrap64; omega]
    have hb := bits_ref w 0 (8 * n) k hw (by omega) (by omega) (by omega) (by omega)
    rw [show ((0 : Nat) : Int) = 0 from rfl] at hb
    rw [hb]; simp only [Option.bind_some]
    rw [num_bytesL, Nat.pow_zero, Nat.div_one, if_pos rfl, ha]; rfl
  · rw [bytes_no _ _ h k]; simp only [Option.bind_some]
    rw [(width_no h).2]; simp only [Option.bind_some, if_true, ha]
    rfl

end Go.Proofs.Ytcnohkakklaejaa.Pure
