/- TrapHears in plain numbers: who is heard, of any that call. -/
import Derived.Test.YtcnohkakklaejaaWalkTrapHears
import Derived.Test.YtcnohkakklaejaaFTrapQTrapHears
import Derived.Test.YtcnohkakklaejaaBitW
namespace Go.Proofs.Ytcnohkakklaejaa.TrapHearsWalk
open Go Go.RowKit Go.Proofs.Ytcnohkakklaejaa.QTrapHears Go.Proofs.YtcnohkakklaejaaW.PrintWords Go.Proofs.YtcnohkakklaejaaW.PrintLast Go.Proofs.YtcnohkakklaejaaW.PrintMore Go.Proofs.Ytcnohkakklaejaa.Bit
open Go.Proofs.Ytcnohkakklaejaa.BitW (and_bit and8)
open Go.Proofs.Ytcnohkakklaejaa.FQTrapHears (bit_ref)
set_option linter.unusedVariables false

theorem awake_at : mimesislaw17_awake.f 30 = some true := by kernel_rfl
theorem awake (k : Nat) (hk : 30 ≤ k) : mimesislaw17_awake.f k = some true :=
  at_rounds (g := mimesislaw17_awake.f) mimesislaw17_awake.mono hk awake_at

/-- Do both have the bit? -/
def both (n e i : Nat) : Bool := decide (n / 2 ^ i % 2 = 1) && decide (e / 2 ^ i % 2 = 1)
theorem and_both (n e i : Nat) : (n &&& e) / 2 ^ i % 2 = (both n e i).toNat := by
  have h : (n &&& e).testBit i = both n e i := by
    rw [Nat.testBit_and, Nat.testBit_eq_decide_div_mod_eq, Nat.testBit_eq_decide_div_mod_eq]; rfl
  rw [Nat.testBit_eq_decide_div_mod_eq] at h
  rw [← h]
  have : (n &&& e) / 2 ^ i % 2 = 0 ∨ (n &&& e) / 2 ^ i % 2 = 1 := by omega
  rcases this with h | h <;> simp [h]
theorem sum_both (n e i : Nat) : ((((n / 2 ^ i % 2 : Nat) : Int) + ((e / 2 ^ i % 2 : Nat) : Int)) % 4294967296 == 2) = both n e i := by
  unfold both
  have h1 : n / 2 ^ i % 2 < 2 := Nat.mod_lt _ (by decide)
  have h2 : e / 2 ^ i % 2 < 2 := Nat.mod_lt _ (by decide)
  generalize n / 2 ^ i % 2 = a at *
  generalize e / 2 ^ i % 2 = b at *
  match a, b, h1, h2 with
  | 0, 0, _, _ | 0, 1, _, _ | 1, 0, _, _ | 1, 1, _, _ => decide
theorem sum_both' (n e i : Nat) : (IntKind.u32.wrap (((n / 2 ^ i % 2 : Nat) : Int) + ((e / 2 ^ i % 2 : Nat) : Int)) == 2) = both n e i := by
  rw [IntKind.wrap_u32']; exact sum_both n e i

theorem and_lt (n e : Nat) (hn : n < 4294967296) : n &&& e < 4294967296 := Nat.lt_of_le_of_lt Nat.and_le_left hn
theorem and2 (n e i : Nat) (hn : n < 4294967296) (he : e < 4294967296) (hi : i ≤ 31) : Go.bits .and .u32 (Go.bits .and .u32 (n : Int) (e : Int)) ((2 ^ i : Nat) : Int) = (((both n e i).toNat * 2 ^ i : Nat) : Int) := by
  rw [u32_and_nat n e hn he, and_bit _ i (and_lt n e hn) hi, and_both]

/-- Who is heard. -/
def who (s n e : Nat) : Int × Bool := if s / 8 % 2 = 0 then (0, false) else if both n e 11 = true then (2147483659, true) else if both n e 3 = true then (2147483651, true) else if both n e 7 = true then (2147483655, true) else (0, false)

theorem zero_iff (b : Bool) (m : Nat) (hm : 0 < m) : (((b.toNat * m : Nat) : Int) = 0) ↔ b = false := by
  cases b
  · simp
  · simp; omega

theorem prog_heard (s e n : Nat) (a2 a3 a4 a5 a6 : Int) (hs : s < 4294967296) (he : e < 4294967296) (hn : n < 4294967296) : trap_Heard.f (s : Int) (e : Int) a2 a3 a4 a5 a6 (n : Int) = some (who s n e) := by
  unfold trap_Heard.f who
  have h11 := and2 n e 11 hn he (by decide)
  have h3 := and2 n e 3 hn he (by decide)
  have h7 := and2 n e 7 hn he (by decide)
  rw [show ((2 ^ 11 : Nat) : Int) = 2048 from rfl] at h11
  rw [show ((2 ^ 3 : Nat) : Int) = 8 from rfl] at h3
  rw [show ((2 ^ 7 : Nat) : Int) = 128 from rfl] at h7
  rw [h11, h3, h7, and8 s hs]
  by_cases h0 : s / 8 % 2 = 0
  · rw [if_pos (by rw [h0]; rfl), if_pos h0]
  · rw [if_neg (by omega), if_neg h0]
    generalize both n e 11 = x
    generalize both n e 3 = y
    generalize both n e 7 = z
    cases x <;> cases y <;> cases z <;> rfl

theorem prog_wakes (e n : Nat) (a0 a2 a3 a4 a5 a6 : Int) (he : e < 4294967296) (hn : n < 4294967296) : trap_Wakes.f a0 (e : Int) a2 a3 a4 a5 a6 (n : Int) = some (both n e 3 || both n e 7 || both n e 11) := by
  unfold trap_Wakes.f
  have hl := and_lt n e hn
  have h3 := and_field (n &&& e) 1 3
  have h7 := and_field (n &&& e) 1 7
  have h11 := and_field (n &&& e) 1 11
  rw [show (2 : Nat) ^ 1 = 2 from rfl, show (2 : Nat) - 1 = 1 from rfl, Nat.one_mul, and_both] at h3 h7 h11
  rw [u32_and_nat n e hn he, show (2184 : Int) = ((2184 : Nat) : Int) from rfl, u32_and_nat _ 2184 hl (by decide), show (2184 : Nat) = 2 ^ 3 ||| (2 ^ 7 ||| 2 ^ 11) by decide, Nat.and_or_distrib_left, Nat.and_or_distrib_left, h3, h7, h11]
  cases both n e 3 <;> cases both n e 7 <;> cases both n e 11 <;> decide

theorem ref_wakes (e n k : Nat) (a0 a2 a3 a4 a5 a6 : Int) (he : e < 4294967296) (hn : n < 4294967296) (hk : 50 < k) (w : World) :
    Calls Try.prog 39 #[.agg #[.int .u32 a0, .int .u32 (e : Int), .int .u32 a2, .int .u32 a3, .int .u32 a4, .int .u32 a5, .int .u32 a6], .int .u32 (n : Int)] w fun en w' => en = .returned (.bool (both n e 3 || both n e 7 || both n e 11)) ∧ Below w.heap.size w w' :=
  wakes_calls k _ _ _ _ _ _ _ _ _ _ _ _ _ _ _ _ _ w (bit_ref n 3 k hn (by decide) hk) (bit_ref e 3 k he (by decide) hk) (bit_ref n 7 k hn (by decide) hk) (bit_ref e 7 k he (by decide) hk) (bit_ref n 11 k hn (by decide) hk) (bit_ref e 11 k he (by decide) hk) (sum_both' n e 3) (sum_both' n e 7) (sum_both' n e 11)

theorem ref_heard (s e n k : Nat) (a2 a3 a4 a5 a6 : Int) (hs : s < 4294967296) (he : e < 4294967296) (hn : n < 4294967296) (hk : 50 < k) (w : World) :
    Calls Try.prog 37 #[.agg #[.int .u32 (s : Int), .int .u32 (e : Int), .int .u32 a2, .int .u32 a3, .int .u32 a4, .int .u32 a5, .int .u32 a6], .int .u32 (n : Int)] w fun en w' => en = .returned (.tuple #[.int .u32 (who s n e).1, .bool (who s n e).2]) ∧ Below w.heap.size w w' := by
  have F0 := Aside0.mk (bit_ref s 3 k hs (by decide) hk)
  have F1 := Aside0.mk (bit_ref n 11 k hn (by decide) hk); have F2 := Aside0.mk (bit_ref e 11 k he (by decide) hk)
  have F3 := Aside0.mk (bit_ref n 3 k hn (by decide) hk); have F4 := Aside0.mk (bit_ref e 3 k he (by decide) hk)
  have F5 := Aside0.mk (bit_ref n 7 k hn (by decide) hk); have F6 := Aside0.mk (bit_ref e 7 k he (by decide) hk)
  unfold who
  by_cases h0 : s / 8 % 2 = 0
  · rw [if_pos h0]
    exact heard_no k _ _ _ _ _ _ _ _ _ w F0 (by rw [show (2 : Nat) ^ 3 = 8 from rfl, h0]; rfl)
  · have ht : (((s / 2 ^ 3 % 2 : Nat) : Int) == 0) = false := by
      rw [show (2 : Nat) ^ 3 = 8 from rfl]; exact beq_eq_false_iff_ne.2 (by omega)
    rw [if_neg h0]
    cases hb11 : both n e 11
    · rw [if_neg (by simp)]
      cases hb3 : both n e 3
      · rw [if_neg (by simp)]
        cases hb7 : both n e 7
        · rw [if_neg (by simp)]
          exact heard_3 k _ _ _ _ _ _ _ _ _ _ _ _ _ _ _ w F0 F1 F2 F3 F4 F5 F6 ht (by rw [sum_both, hb11]) (by rw [sum_both, hb3]) (by rw [sum_both, hb7])
        · rw [if_pos rfl]
          exact heard_2 k _ _ _ _ _ _ _ _ _ _ _ _ _ _ _ w F0 F1 F2 F3 F4 F5 F6 ht (by rw [sum_both, hb11]) (by rw [sum_both, hb3]) (by rw [sum_both, hb7])
      · rw [if_pos rfl]
        exact heard_1 k _ _ _ _ _ _ _ _ _ _ _ _ _ w F0 F1 F2 F3 F4 ht (by rw [sum_both, hb11]) (by rw [sum_both, hb3])
    · rw [if_pos rfl]
      exact heard_0 k _ _ _ _ _ _ _ _ _ _ _ w F0 F1 F2 ht (by rw [sum_both, hb11])

theorem who_yes (s n e : Nat) (h : (who s n e).2 = true) : (both n e 3 || both n e 7 || both n e 11) = true := by
  unfold who at h
  split at h
  · simp at h
  · split at h
    · rename_i h1; simp [h1]
    · split at h
      · rename_i h1; simp [h1]
      · split at h
        · rename_i h1; simp [h1]
        · simp at h

theorem trap_hears (a0 a1 a2 a3 a4 a5 a6 n : Int) (W : World) (u0 : (Lit.int .u32 a0).wf = true) (u1 : (Lit.int .u32 a1).wf = true) (_u2 : (Lit.int .u32 a2).wf = true) (_u3 : (Lit.int .u32 a3).wf = true) (_u4 : (Lit.int .u32 a4).wf = true) (_u5 : (Lit.int .u32 a5).wf = true) (_u6 : (Lit.int .u32 a6).wf = true) (w1 : (Lit.int .u32 n).wf = true) :
    Calls Try.prog 8 #[.agg #[.int .u32 a0, .int .u32 a1, .int .u32 a2, .int .u32 a3, .int .u32 a4, .int .u32 a5, .int .u32 a6], .int .u32 n] W fun e w' => e = .returned (.bool true) ∧ Below W.heap.size W w' := by
  obtain ⟨s, rfl, hs⟩ := wf_u32 u0
  obtain ⟨e, rfl, he⟩ := wf_u32 u1
  obtain ⟨n, rfl, hn⟩ := wf_u32 w1
  have c1 := prog_heard s e n a2 a3 a4 a5 a6 hs he hn
  have c2 := prog_wakes e n (s : Int) a2 a3 a4 a5 a6 he hn
  have c3 := ref_heard s e n 60 a2 a3 a4 a5 a6 hs he hn (by decide)
  have c4 := ref_wakes e n 60 (s : Int) a2 a3 a4 a5 a6 he hn (by decide)
  have hy := who_yes s n e
  generalize (both n e 3 || both n e 7 || both n e 11) = wk at *
  rcases hw : who s n e with ⟨h, b⟩
  rw [hw] at c1 c3 hy
  cases b
  · exact walk_no 60 _ _ _ _ _ _ _ _ h wk W ⟨c1⟩ ⟨c2⟩ ⟨awake 60 (by decide)⟩ ⟨c3⟩ ⟨c4⟩
  · obtain rfl := hy rfl
    exact walk_yes 60 _ _ _ _ _ _ _ _ h true W c1 c2 (awake 60 (by decide)) c3 c4

end Go.Proofs.Ytcnohkakklaejaa.TrapHearsWalk
