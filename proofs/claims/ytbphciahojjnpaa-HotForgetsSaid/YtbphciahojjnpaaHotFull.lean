/- The walk of HotFull. -/
import Derived.Test.YtbphciahojjnpaaHotAwake
import Derived.Test.YtbphciahojjnpaaHotPlain2
import Derived.Laws.BitsLemmas
namespace Go.Proofs.Ytbphciahojjnpaa
open Go Go.RowKit Go.Deep Go.Proofs.YtbphciahojjnpaaW.PrintWords Go.Proofs.Ytbphciahojjnpaa.HotPlain
set_option linter.unusedVariables false
set_option linter.unusedSimpArgs false

theorem u32_of (x : Int) (h : (Lit.int .u32 x).wf = true) : 0 ≤ x ∧ x < 4294967296 := by
  simp [Lit.wf, IntKind.min, IntKind.max, IntKind.bits, IntKind.signed] at h; omega
theorem or_one (un : Int) (h : (Lit.int .u32 un).wf = true) : ∃ U, bits BinOp.or IntKind.u32 un 1 = U ∧ U % 2 = 1 ∧ 0 ≤ U ∧ U < 4294967296 := by
  obtain ⟨n, rfl, hn⟩ : ∃ n : Nat, un = n ∧ n < 4294967296 := by
    have := u32_of un h
    exact ⟨un.toNat, by omega, by omega⟩
  refine ⟨_, u32_or_nat n 1 hn (by decide), ?_, by omega, ?_⟩
  · have : (n ||| 1).testBit 0 = true := by simp
    rw [Nat.testBit_zero] at this
    have := of_decide_eq_true this
    omega
  · have := Nat.or_lt_two_pow (show n < 2 ^ 32 from hn) (show 1 < 2 ^ 32 by decide)
    omega
set_option maxRecDepth 100000 in
set_option maxHeartbeats 1000000 in
theorem hot_full (fr un ot : Int) (W : World) (_h0 : (Lit.int .u32 fr).wf = true) (_h1 : (Lit.int .u32 un).wf = true) (_h2 : (Lit.int .u32 ot).wf = true) : Calls Try.prog 11 #[.int .u32 fr, .int .u32 un, .int .u32 ot] W fun e w' => e = .returned (.bool true) ∧ Below W.heap.size W w' := by
  obtain ⟨U, hU, u1, u2, u3⟩ := or_one un _h1
  obtain ⟨f0, f1⟩ := u32_of fr _h0
  obtain ⟨o0, o1⟩ := u32_of ot _h2
  have HU := Aside0.mk hU
  have U1 := Aside0.mk u1
  clear hU u1 _h0 _h1 _h2
  have B0 := Aside0.mk (Below.refl W.heap.size W)
  go_enter Try.func11, Try.ntmps11
  go_wp2_with fail
  rw [HU.out]
  clear HU
  refine (tnew_calls _).mono ?_
  rintro e w1 ⟨rfl, t, d⟩
  have B1 := Aside0.mk (below_on B0.out d)
  have T0 := Aside0.mk t
  clear t d B0
  go_wp2_with fail
  have hT : Aside0 (TB w1 W.heap.size (stepsW fr U 0)) := ⟨T0.out⟩
  go_loopg [8] 64 (fun g i wr => ∃ k : Nat, g + k = 64 ∧ i = .int .u32 (k : Int) ∧ Aside0 (TB wr W.heap.size (stepsW fr U k)) ∧ Aside0 (Below W.heap.size W wr))
  case atStart => exact ⟨0, rfl, rfl, hT, ⟨B1.out⟩⟩
  case round =>
    obtain ⟨k, hk, rfl, ht, hb⟩ := hrel
    obtain ⟨wo, rfl⟩ : ∃ wo : World, wo = wr := ⟨_, rfl⟩
    by_cases hlt : k < 64
    · have HA := hadd_steps fr U k U1.out hlt
      have HK := tcount_calls wo W.heap.size (stepsW fr U k) ((fr + k * U) % 4294967296) ht.out (by omega) (by omega)
      rw [HA] at HK
      have HK := Aside0.mk HK
      clear HA
      go_wp2_with fail
      refine HK.out.mono ?_
      rintro e w2 ⟨rfl, t, o⟩
      have T2 := Aside0.mk t
      have B2 := Aside0.mk (o.below (Nat.le_refl _) hb.out)
      clear t o HK ht hb
      go_wp2_with fail
      go_roundg (gk - 1)
      case measure => omega
      case rel => exact ⟨k + 1, by omega, by congr 1, T2, B2⟩
    · obtain rfl : k = 64 := by omega
      go_wp2_with fail
      by_cases hex : ∃ j : Nat, j < 64 ∧ (fr + j * U) % 4294967296 = ot
      · go_loopg [9] 64 (fun g i w2 => ∃ k : Nat, g + k = 64 ∧ i = .int .u32 (k : Int) ∧ Aside0 (∀ j : Nat, j < k → (fr + j * U) % 4294967296 ≠ ot) ∧ wo = w2)
        case atStart => exact ⟨0, rfl, rfl, ⟨fun j hj => absurd hj (by omega)⟩, rfl⟩
        case round =>
          obtain ⟨k, hk2, rfl, hno, rfl⟩ := hrel
          have hlt2 : k < 64 := by
            obtain ⟨j, hj, he⟩ := hex
            rcases Nat.lt_or_ge j k with h | h
            · exact absurd he (hno.out j h)
            · omega
          have HEX := Aside0.mk hex
          clear hex
          by_cases he : (fr + (k : Int) * U) % 4294967296 = ot
          · have he' : (ot == (fr + (k : Int) * U) % 4294967296) = true := beq_iff_eq.2 he.symm
            clear he
            go_wp2_with fail
            refine (hot_awake _).mono ?_
            rintro e w3 ⟨rfl, d⟩
            have B3 := Aside0.mk (below_on hb.out d)
            clear d
            go_wp2_with fail
            go_ret
            exact ⟨rfl, B3.out⟩
          · have he' : (ot == (fr + (k : Int) * U) % 4294967296) = false := beq_eq_false_iff_ne.2 (fun h => he h.symm)
            have HNO : Aside0 (∀ j : Nat, j < k + 1 → (fr + j * U) % 4294967296 ≠ ot) := ⟨fun j hj => by
              rcases Nat.lt_or_eq_of_le (Nat.le_of_lt_succ hj) with h | h
              · exact hno.out j h
              · subst h; exact he⟩
            clear he hno
            go_wp2_with fail
            go_roundg (gk - 1)
            case measure => omega
            case rel => exact ⟨k + 1, by omega, by congr 1, HNO, rfl⟩
      · have HNE : Aside0 (∀ j : Nat, j < 64 → (fr + j * U) % 4294967296 ≠ ot) := ⟨fun j hj h => hex ⟨j, hj, h⟩⟩
        clear hex
        go_loopg [9] 64 (fun g i w2 => ∃ k : Nat, g + k = 64 ∧ i = .int .u32 (k : Int) ∧ wo = w2)
        case atStart => exact ⟨0, rfl, rfl, rfl⟩
        case round =>
          obtain ⟨k, hk2, rfl, rfl⟩ := hrel
          by_cases hlt2 : k < 64
          · have he' : (ot == (fr + (k : Int) * U) % 4294967296) = false := beq_eq_false_iff_ne.2 (fun h => HNE.out k hlt2 h.symm)
            go_wp2_with fail
            go_roundg (gk - 1)
            case measure => omega
            case rel => exact ⟨k + 1, by omega, by congr 1, rfl⟩
          · obtain rfl : k = 64 := by omega
            go_wp2_with fail
            have hsl := stepsW_len fr U 64
            have ff : fr % 4294967296 = fr := by omega
            have q1 := hadd_full fr U ot HNE.out
            have q2 := hforget_full fr U ff U1.out
            have h0 := hof_steps fr U ot 64 HNE.out
            have hg := ht.out.good
            have hne : ot ≠ fr := fun h => HNE.out 0 (by omega) (by rw [h]; simpa using ff)
            obtain ⟨V, hV⟩ : ∃ V, stepsW fr U 64 = V := ⟨_, rfl⟩
            rw [hV] at q1 q2 h0 hg ht
            obtain ⟨q2, q3⟩ := q2
            have q4 := hadd_again (V.filter fun p : Int × Int => p.1 != fr) ot (hof_filter h0 hg) q3
            have q5 := hof_gone V fr ot hne
            have q6 : ((V.filter fun p : Int × Int => p.1 != fr) ++ [(ot, 1)]).length = 64 := by rw [List.length_append, q3]; rfl
            obtain ⟨X, hX⟩ : ∃ X, V.filter (fun p : Int × Int => p.1 != fr) = X := ⟨_, rfl⟩
            rw [hX] at q2 q3 q4 q5 q6
            have A1 := Aside0.mk (fun w (h : TB w W.heap.size V) => q1 ▸ tcount_calls w W.heap.size V ot h o0 o1)
            have A2 := Aside0.mk (fun w (h : TB w W.heap.size V) => q2 ▸ tforget_calls w W.heap.size V fr h f0 f1)
            have A3 := Aside0.mk (fun w (h : TB w W.heap.size X) => q4 ▸ tcount_calls w W.heap.size X ot h o0 o1)
            have A4 := Aside0.mk (fun w (h : TB w W.heap.size (X ++ [(ot, 1)])) => q6 ▸ tlen_calls w W.heap.size (X ++ [(ot, 1)]) h)
            have A5 := Aside0.mk (fun w (h : TB w W.heap.size (X ++ [(ot, 1)])) => q5 ▸ tof_calls w W.heap.size (X ++ [(ot, 1)]) fr h f0 f1)
            have T1 := Aside0.mk (ht.out)
            have B2 := Aside0.mk (hb.out)
            clear ht hb hsl ff q1 q2 q3 q4 q5 q6 h0 hg hne hV hX HNE
            refine (A1.out _ T1.out).mono ?_
            rintro e w2 ⟨rfl, t, o⟩
            have B3 := Aside0.mk (o.below (Nat.le_refl _) B2.out)
            have T2 := Aside0.mk t
            clear t o B2 T1
            go_wp2_with fail
            refine (A2.out _ T2.out).mono ?_
            rintro e w3 ⟨rfl, t, o⟩
            have B4 := Aside0.mk (o.below (Nat.le_refl _) B3.out)
            have T3 := Aside0.mk t
            clear t o B3 T2
            go_wp2_with fail
            refine (A3.out _ T3.out).mono ?_
            rintro e w4 ⟨rfl, t, o⟩
            have B5 := Aside0.mk (o.below (Nat.le_refl _) B4.out)
            have T4 := Aside0.mk t
            clear t o B4 T3
            go_wp2_with fail
            refine (A4.out _ T4.out).mono ?_
            rintro e w5 ⟨rfl, d⟩
            have T5 := Aside0.mk (T4.out.drawn d)
            have B6 := Aside0.mk (drawn_below' B5.out d)
            clear d B5 T4
            go_wp2_with fail
            refine (A5.out _ T5.out).mono ?_
            rintro e w6 ⟨rfl, d⟩
            have T6 := Aside0.mk (T5.out.drawn d)
            have B7 := Aside0.mk (drawn_below' B6.out d)
            clear d B6 T5
            go_wp2_with fail
            refine (hot_awake _).mono ?_
            rintro e w7 ⟨rfl, d⟩
            have T7 := Aside0.mk (T6.out.below d)
            have B8 := Aside0.mk (below_on B7.out d)
            clear d B7 T6
            go_wp2_with fail
            go_ret
            exact ⟨by simp, B8.out⟩

end Go.Proofs.Ytbphciahojjnpaa
