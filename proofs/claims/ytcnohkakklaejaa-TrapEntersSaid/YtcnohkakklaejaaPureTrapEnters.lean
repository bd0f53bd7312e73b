/- TrapEnters in plain numbers: the registers behind any trap, where it goes on, and any cause's name. -/
import Derived.Test.YtcnohkakklaejaaWalkTrapEnters
import Derived.Test.YtcnohkakklaejaaFTrapQTrapEnters
namespace Go.Proofs.Ytcnohkakklaejaa.TrapEntersWalk
open Go Go.RowKit Go.Proofs.Ytcnohkakklaejaa.QTrapEnters Go.Proofs.YtcnohkakklaejaaW.PrintWords Go.Proofs.YtcnohkakklaejaaW.PrintLast Go.Proofs.YtcnohkakklaejaaW.PrintMore Go.Proofs.Ytcnohkakklaejaa.Bit Go.Proofs.Ytcnohkakklaejaa.FQTrapEnters
set_option linter.unusedVariables false

theorem awake_at : mimesislaw17_awake.f 30 = some true := by kernel_rfl
theorem awake (k : Nat) (hk : 30 ≤ k) : mimesislaw17_awake.f k = some true :=
  at_rounds (g := mimesislaw17_awake.f) mimesislaw17_awake.mono hk awake_at

theorem andNot136 (s : Nat) (hs : s < 4294967296) : Go.bits .andNot .u32 (s : Int) 136 = ((s - s / 8 % 2 * 8 - s / 128 % 2 * 128 : Nat) : Int) := by
  have h1 := andNot_field s 1 3 hs (by decide)
  rw [show (2 : Nat) ^ 1 = 2 from rfl, show (2 : Nat) - 1 = 1 from rfl, Nat.one_mul, show (2 : Nat) ^ 3 = 8 from rfl] at h1
  have h2 := andNot_field (s - s / 8 % 2 * 8) 1 7 (by omega) (by decide)
  rw [show (2 : Nat) ^ 1 = 2 from rfl, show (2 : Nat) - 1 = 1 from rfl, Nat.one_mul, show (2 : Nat) ^ 7 = 128 from rfl] at h2
  rw [show (136 : Int) = ((136 : Nat) : Int) from rfl, u32_andNot_nat s 136 hs (by decide), show 4294967295 - 136 = (4294967295 - 8) &&& (4294967295 - 128) by decide, ← Nat.and_assoc, h1, h2]
  rw [Int.natCast_inj]
  omega
theorem andNot3 (s : Nat) (hs : s < 4294967296) : Go.bits .andNot .u32 (s : Int) 3 = ((s / 4 * 4 : Nat) : Int) := by
  have h1 := andNot_field s 2 0 hs (by decide)
  rw [show (2 : Nat) ^ 2 = 4 from rfl, show (4 : Nat) - 1 = 3 from rfl, Nat.pow_zero, Nat.mul_one, Nat.div_one, Nat.mul_one] at h1
  rw [show (3 : Int) = ((3 : Nat) : Int) from rfl, u32_andNot_nat s 3 hs (by decide), h1, Int.natCast_inj]
  omega

/-- The status behind a trap. -/
def st (s : Nat) : Nat := setBit (setBit s 7 (s / 8 % 2)) 3 0
theorem status (s : Nat) (hs : s < 4294967296) : Go.bits .or .u32 (Go.bits .andNot .u32 (s : Int) 136) (((Go.bits .and .u32 (s : Int) 8) * 16) % 4294967296) = ((st s : Nat) : Int) := by
  rw [andNot136 s hs, and8 s hs]
  have e : ((s / 8 % 2 * 8 : Nat) : Int) * 16 % 4294967296 = ((s / 8 % 2 * 128 : Nat) : Int) := by omega
  rw [e]
  have h1 := or_bit (s - s / 8 % 2 * 8 - s / 128 % 2 * 128) 7 (s / 8 % 2) (by omega) (by have : (2 : Nat) ^ 7 = 128 := rfl; omega) (by decide) (by omega)
  rw [show (2 : Nat) ^ 7 = 128 from rfl] at h1
  rw [h1]
  unfold st setBit
  rw [Int.natCast_inj]
  simp only [show (2 : Nat) ^ 3 = 8 from rfl, show (2 : Nat) ^ 7 = 128 from rfl]
  have e1 : (s - s / 128 % 2 * 128 + s / 8 % 2 % 2 * 128) / 8 = s / 8 - s / 128 % 2 * 16 + s / 8 % 2 * 16 := by omega
  have e2 : (s / 8 - s / 128 % 2 * 16 + s / 8 % 2 * 16) % 2 = s / 8 % 2 := by omega
  rw [e1, e2]
  omega

/-- Where a trap goes on. -/
def goes (t c : Nat) : Nat := if 2147483648 ≤ c ∧ t % 2 = 1 then (t / 4 * 4 + 4 * (c - 2147483648)) % 4294967296 else t / 4 * 4
theorem prog_enter (s t c : Nat) (a1 a3 a4 a5 a6 pc tv : Int) (hs : s < 4294967296) (ht : t < 4294967296) (hc : c < 4294967296) :
    trap_Enter.f (s : Int) a1 (t : Int) a3 a4 a5 a6 pc (c : Int) tv = some (((st s : Nat) : Int), a1, (t : Int), a3, pc, (c : Int), tv, ((goes t c : Nat) : Int)) := by
  unfold trap_Enter.f
  rw [status s hs, andNot3 t ht, and1 t ht]
  unfold goes
  by_cases h1 : 2147483648 ≤ c
  · rw [if_pos (by omega)]
    by_cases h2 : t % 2 = 1
    · rw [if_pos (by omega), if_pos ⟨h1, h2⟩]
      simp only [Option.some.injEq, Prod.mk.injEq, true_and]
      omega
    · rw [if_neg (by omega), if_neg (by omega)]
  · rw [if_neg (by omega), if_neg (by omega)]
theorem ref_enter (s t c k : Nat) (a1 a3 a4 a5 a6 pc tv : Int) (hs : s < 4294967296) (ht : t < 4294967296) (hc : c < 4294967296) (hk : 50 < k) :
    mimesisref17_Enter.f k (s : Int) a1 (t : Int) a3 a4 a5 a6 pc (c : Int) tv = some (((st s : Nat) : Int), a1, (t : Int), a3, pc, (c : Int), tv, ((goes t c : Nat) : Int)) := by
  have b3 := bit_ref s 3 k hs (by decide) hk
  have b31 := bit_ref c 31 k hc (by decide) hk
  have b0 := bit_ref t 0 k ht (by decide) hk
  rw [show ((3 : Nat) : Int) = 3 from rfl, show (2 : Nat) ^ 3 = 8 from rfl] at b3
  rw [show ((31 : Nat) : Int) = 31 from rfl, show (2 : Nat) ^ 31 = 2147483648 from rfl] at b31
  rw [show ((0 : Nat) : Int) = 0 from rfl, Nat.pow_zero, Nat.div_one] at b0
  have p7 := put_bit s 7 (s / 8 % 2) k hs (by omega) (by decide) hk
  have p3 := put_bit (setBit s 7 (s / 8 % 2)) 3 0 k (setBit_lt s 7 _ hs (by decide)) (by decide) (by decide) hk
  rw [show ((7 : Nat) : Int) = 7 from rfl] at p7
  rw [show ((3 : Nat) : Int) = 3 from rfl, show ((0 : Nat) : Int) = 0 from rfl] at p3
  unfold mimesisref17_Enter.f
  rw [b3, Option.bind_some, p7, Option.bind_some, p3, Option.bind_some, b31, Option.bind_some, b0]
  have e4 : IntKind.u64.wrap (IntKind.u64.wrap (Int.tdiv (IntKind.u64.wrap (t : Int)) 4) * 4) = ((t / 4 * 4 : Nat) : Int) := by
    rw [u64_in t (by omega), show Int.tdiv (t : Int) 4 = ((t / 4 : Nat) : Int) from rfl, u64_in _ (by omega), show ((t / 4 : Nat) : Int) * 4 = ((t / 4 * 4 : Nat) : Int) by push_cast; rfl, u64_in _ (by omega)]
  rw [e4]
  unfold goes st
  by_cases h1 : 2147483648 ≤ c
  · rw [if_pos (by omega), Option.bind_some]
    by_cases h2 : t % 2 = 1
    · rw [if_pos (by omega), if_pos ⟨h1, h2⟩]
      simp only [Option.some.injEq, Prod.mk.injEq, true_and]
      rw [u64_in c (by omega), show (c : Int) - 2147483648 = ((c - 2147483648 : Nat) : Int) by omega, u64_in _ (by omega), show 4 * ((c - 2147483648 : Nat) : Int) = ((4 * (c - 2147483648) : Nat) : Int) by push_cast; rfl, u64_in _ (by omega), ← Int.natCast_add, u64_in _ (by omega)]
      rw [show Int.tmod ((t / 4 * 4 + 4 * (c - 2147483648) : Nat) : Int) 4294967296 = (((t / 4 * 4 + 4 * (c - 2147483648)) % 4294967296 : Nat) : Int) from rfl]
      omega
    · rw [if_neg (by omega), if_neg (by omega)]
      simp only [Option.some.injEq, Prod.mk.injEq, true_and]
      rw [show Int.tmod ((t / 4 * 4 : Nat) : Int) 4294967296 = ((t / 4 * 4 % 4294967296 : Nat) : Int) from rfl]
      omega
  · rw [if_neg (by omega), if_neg (by omega)]
    simp only [Option.some.injEq, Prod.mk.injEq, true_and]
    rw [show Int.tmod ((t / 4 * 4 : Nat) : Int) 4294967296 = ((t / 4 * 4 % 4294967296 : Nat) : Int) from rfl]
    omega

/-- A cause that is none of the table's. -/
theorem search_none (c : Int) (ns : List ByteArray) (l : List Int) (hl : l.length ≤ 1000) (h : ∀ x ∈ l, x ≠ c) (d : Nat) : ∀ (k i : Nat), i + d = l.length → d < k →
    trap_Name.l0 k c ns l (l.length : Int) (i : Int) = some (⟨#[117, 110, 107, 110, 111, 119, 110]⟩ : ByteArray) := by
  induction d with
  | zero =>
    intro k i hi hk
    obtain ⟨k, rfl⟩ : ∃ m, k = m + 1 := ⟨k - 1, by omega⟩
    simp only [trap_Name.l0]
    rw [if_neg (by omega)]
  | succ d ih =>
    intro k i hi hk
    obtain ⟨k, rfl⟩ : ∃ m, k = m + 1 := ⟨k - 1, by omega⟩
    simp only [trap_Name.l0]
    have hi' : i < l.length := by omega
    have hr : rd l (i : Int) = l[i] := by simp [rd, List.getD_eq_getElem?_getD, hi']
    have hx := h _ (List.getElem_mem hi')
    rw [if_pos (by omega), if_pos (by omega), if_pos (by omega), hr, if_neg hx, show wrap64 ((i : Int) + 1) = ((i + 1 : Nat) : Int) by unfold wrap64; omega]
    exact ih k (i + 1) (by omega) (by omega)

def causes : List Int := [0, 1, 2, 3, 4, 5, 6, 7, 11, 2147483651, 2147483655, 2147483659]
theorem name_some : ∀ c ∈ causes, trap_Name.f 20 c = mimesisref17_Name.f c ∧ (mimesisref17_Name.f c).isSome = true := by
  intro c hc
  simp only [causes, List.mem_cons, List.not_mem_nil, or_false] at hc
  rcases hc with rfl | rfl | rfl | rfl | rfl | rfl | rfl | rfl | rfl | rfl | rfl | rfl <;> exact ⟨by kernel_rfl, by kernel_rfl⟩
theorem names (c : Nat) (k : Nat) (hk : 30 ≤ k) : ∃ nm, trap_Name.f k (c : Int) = some nm ∧ mimesisref17_Name.f (c : Int) = some nm := by
  by_cases h : (c : Int) ∈ causes
  · obtain ⟨h1, h2⟩ := name_some _ h
    obtain ⟨nm, hn⟩ := Option.isSome_iff_exists.1 h2
    rw [hn] at h1
    exact ⟨nm, at_rounds (g := fun k => trap_Name.f k (c : Int)) (trap_Name.mono _) (show 20 ≤ k by omega) h1, hn⟩
  · refine ⟨⟨#[117, 110, 107, 110, 111, 119, 110]⟩, ?_, ?_⟩
    · have := search_none (c : Int) ([(⟨#[106, 117, 109, 112]⟩ : ByteArray), (⟨#[102, 101, 116, 99, 104]⟩ : ByteArray), (⟨#[105, 108, 108, 101, 103, 97, 108]⟩ : ByteArray), (⟨#[98, 114, 101, 97, 107]⟩ : ByteArray), (⟨#[108, 111, 97, 100, 45, 111, 100, 100]⟩ : ByteArray), (⟨#[108, 111, 97, 100]⟩ : ByteArray), (⟨#[115, 116, 111, 114, 101, 45, 111, 100, 100]⟩ : ByteArray), (⟨#[115, 116, 111, 114, 101]⟩ : ByteArray), (⟨#[99, 97, 108, 108]⟩ : ByteArray), (⟨#[115, 111, 102, 116]⟩ : ByteArray), (⟨#[116, 105, 109, 101, 114]⟩ : ByteArray), (⟨#[101, 120, 116, 101, 114, 110, 97, 108]⟩ : ByteArray)] : List ByteArray) causes (by decide) (fun x hx e => h (e ▸ hx)) 12 k 0 rfl (by omega)
      unfold trap_Name.f
      rw [Option.bind_some]
      exact this
    · have hm : ∀ n : Int, n ∈ causes → ¬ (c : Int) = n := fun n hn e => h (e ▸ hn)
      have h0 := hm 0 (by decide); have h1 := hm 1 (by decide); have h2 := hm 2 (by decide); have h3 := hm 3 (by decide); have h4 := hm 4 (by decide); have h5 := hm 5 (by decide)
      have h6 := hm 6 (by decide); have h7 := hm 7 (by decide); have h8 := hm 11 (by decide); have h9 := hm 2147483651 (by decide); have h10 := hm 2147483655 (by decide); have h11 := hm 2147483659 (by decide)
      unfold mimesisref17_Name.f
      rw [if_neg (by omega), if_neg h8, if_neg h9, if_neg h10, if_neg h11]

theorem trap_enters (a0 a1 a2 a3 a4 a5 a6 pc c tv : Int) (W : World) (u0 : (Lit.int .u32 a0).wf = true) (_u1 : (Lit.int .u32 a1).wf = true) (u2 : (Lit.int .u32 a2).wf = true) (_u3 : (Lit.int .u32 a3).wf = true) (_u4 : (Lit.int .u32 a4).wf = true) (_u5 : (Lit.int .u32 a5).wf = true) (_u6 : (Lit.int .u32 a6).wf = true)
    (_w1 : (Lit.int .u32 pc).wf = true) (v0 : (Lit.int .u32 c).wf = true) (_v1 : (Lit.int .u32 tv).wf = true) :
    Calls Try.prog 3 #[.agg #[.int .u32 a0, .int .u32 a1, .int .u32 a2, .int .u32 a3, .int .u32 a4, .int .u32 a5, .int .u32 a6], .int .u32 pc, .agg #[.int .u32 c, .int .u32 tv]] W fun e w' => e = .returned (.bool true) ∧ Below W.heap.size W w' := by
  obtain ⟨s, rfl, hs⟩ := wf_u32 u0
  obtain ⟨t, rfl, ht⟩ := wf_u32 u2
  obtain ⟨c, rfl, hc⟩ := wf_u32 v0
  obtain ⟨k, hk⟩ : ∃ k, 60 ≤ k := ⟨60, Nat.le_refl _⟩
  obtain ⟨nm, n1, n2⟩ := names c k (by omega)
  exact walk k _ _ _ _ _ _ _ _ _ _ _ _ nm W (prog_enter s t c a1 a3 a4 a5 a6 pc tv hs ht hc) (ref_enter s t c k a1 a3 a4 a5 a6 pc tv hs ht hc (by omega)) n1 n2 (awake k (by omega))

end Go.Proofs.Ytcnohkakklaejaa.TrapEntersWalk
