/- WordBits in plain numbers: whatever the word, the place, the width and what is put in. -/
import Derived.Test.YtcnohkakklaejaaWalkWordBits
import Derived.Test.YtcnohkakklaejaaFBitsQWordBits
namespace Go.Proofs.Ytcnohkakklaejaa.WordBitsWalk
open Go Go.RowKit Go.Proofs.Ytcnohkakklaejaa.QWordBits Go.Proofs.YtcnohkakklaejaaW.PrintWords Go.Proofs.YtcnohkakklaejaaW.PrintLast Go.Proofs.YtcnohkakklaejaaW.PrintMore Go.Proofs.Ytcnohkakklaejaa.Bit Go.Proofs.Ytcnohkakklaejaa.FQWordBits
set_option linter.unusedVariables false

theorem wb_awake_at : mimesislaw01_awake.f 20 = some true := by kernel_rfl
theorem wb_awake (k : Nat) (hk : 20 ≤ k) : mimesislaw01_awake.f k = some true :=
  at_rounds (g := mimesislaw01_awake.f) mimesislaw01_awake.mono hk wb_awake_at

theorem refright (a n : Int) : mimesisref01_Right.f a n = word_right.f a n := rfl

theorem put_bits (w a n x : Nat) (hw : w < 4294967296) (h : a + n ≤ 32) : (w - w / 2 ^ a % 2 ^ n * 2 ^ a + x % 2 ^ n * 2 ^ a) / 2 ^ a % 2 ^ n = x % 2 ^ n := by
  have hp2 : 0 < 2 ^ a := Nat.two_pow_pos a
  have hq := parts w n a
  have hl : w % 2 ^ a < 2 ^ a := Nat.mod_lt _ hp2
  have hy : x % 2 ^ n < 2 ^ n := Nat.mod_lt _ (Nat.two_pow_pos n)
  have e : w - w / 2 ^ a % 2 ^ n * 2 ^ a + x % 2 ^ n * 2 ^ a = 2 ^ a * (2 ^ n * (w / 2 ^ (a + n)) + x % 2 ^ n) + w % 2 ^ a := by
    generalize w / 2 ^ (a + n) = hi at *
    generalize w / 2 ^ a % 2 ^ n = mid at *
    generalize x % 2 ^ n = y at *
    rw [Nat.mul_add] at hq ⊢
    have : mid * 2 ^ a = 2 ^ a * mid := Nat.mul_comm _ _
    have : y * 2 ^ a = 2 ^ a * y := Nat.mul_comm _ _
    omega
  rw [e, Nat.mul_add_div hp2, Nat.div_eq_of_lt hl, Nat.add_zero, Nat.mul_add_mod, Nat.mod_eq_of_lt hy]

theorem word_bits (a0 a1 a2 a3 : Int) (W : World) (w0 : (Lit.int .u32 a0).wf = true) (_u1 : (Lit.int .i64 a1).wf = true) (_u2 : (Lit.int .i64 a2).wf = true) (w3 : (Lit.int .u32 a3).wf = true) :
    Calls Try.prog 7 #[.int .u32 a0, .agg #[.int .i64 a1, .int .i64 a2], .int .u32 a3] W fun e w' => e = .returned (.bool true) ∧ Below W.heap.size W w' := by
  obtain ⟨w, rfl, hw⟩ := wf_u32 w0
  obtain ⟨x, rfl, hx⟩ := wf_u32 w3
  by_cases h : Fits a1 a2
  · obtain ⟨a, rfl⟩ : ∃ n : Nat, a1 = n := ⟨a1.toNat, by unfold Fits at h; omega⟩
    obtain ⟨n, rfl⟩ : ∃ n : Nat, a2 = n := ⟨a2.toNat, by unfold Fits at h; omega⟩
    have h' := h
    obtain ⟨h1, h2, h3, h4⟩ := h'
    obtain ⟨hlt, hle⟩ := put_num w a n x hw (by omega)
    have hB : w / 2 ^ a % 2 ^ n < 4294967296 := by
      have := Nat.mod_le (w / 2 ^ a) (2 ^ n); have := Nat.div_le_self w (2 ^ a); omega
    have c4 := bits_yes _ a n hlt h
    rw [put_bits w a n x hw (by omega)] at c4
    have c5 := put_yes _ a n _ hlt hB h
    have e5 : w - w / 2 ^ a % 2 ^ n * 2 ^ a + x % 2 ^ n * 2 ^ a - (w - w / 2 ^ a % 2 ^ n * 2 ^ a + x % 2 ^ n * 2 ^ a) / 2 ^ a % 2 ^ n * 2 ^ a + w / 2 ^ a % 2 ^ n % 2 ^ n * 2 ^ a = w := by
      rw [put_bits w a n x hw (by omega), Nat.mod_mod]; omega
    rw [e5] at c5
    have c8 := bits_ref x 0 n 50 hx (by omega) (by omega) (by omega) (by omega)
    rw [Nat.pow_zero, Nat.div_one, show ((0 : Nat) : Int) = 0 from rfl] at c8
    exact walk_yes _ _ _ _ _ _ _ 50 W (bits_yes w a n hw h) (put_yes w a n x hw hx h) (by rw [refright]; exact right_yes h) c4 c5 (bits_ref w a n 50 hw (by omega) (by omega) (by omega) (by omega))
      (put_ref w a n x 50 hw hx (by omega) (by omega)) c8 (wb_awake 50 (by omega))
  · exact walk_no _ _ _ _ 50 W (bits_no _ _ _ h) (put_no _ _ _ _ h) (by rw [refright]; exact right_no h) (wb_awake 50 (by omega))

end Go.Proofs.Ytcnohkakklaejaa.WordBitsWalk
