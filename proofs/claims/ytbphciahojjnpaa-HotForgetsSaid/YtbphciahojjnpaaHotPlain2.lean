/- Plain facts on a table that is filled by steps of an odd width. -/
import Derived.Test.YtbphciahojjnpaaHotPlain
namespace Go.Proofs.Ytbphciahojjnpaa.HotPlain
set_option linter.unusedVariables false

/-- Steps of an odd width go round the whole of 2^32: 64 of them are apart. -/
theorem odd_apart (f u : Int) (i j : Nat) (hu : u % 2 = 1) (hi : i < 64) (hj : j < 64) (h : (f + i * u) % 4294967296 = (f + j * u) % 4294967296) : i = j := by
  have key : ∀ a b : Nat, a < 64 → b < 64 → a ≤ b → (f + a * u) % 4294967296 = (f + b * u) % 4294967296 → a = b := by
    intro a b ha hb hab he
    obtain ⟨c, rfl⟩ : ∃ c, b = a + c := ⟨b - a, by omega⟩
    have hd : (4294967296 : Int) ∣ (c : Int) * u := by
      have h1 : (f + ((a + c : Nat) : Int) * u) = (f + (a : Int) * u) + (c : Int) * u := by rw [Int.natCast_add, Int.add_mul]; omega
      rw [h1] at he
      generalize (f + (a : Int) * u) = x at he
      generalize (c : Int) * u = y at he ⊢
      omega
    have hd2 : (4294967296 : Nat) ∣ c * u.natAbs := by
      have := Int.natAbs_dvd_natAbs.2 hd
      rwa [Int.natAbs_mul, Int.natAbs_natCast] at this
    have hco : Nat.Coprime 4294967296 u.natAbs := by
      have : Nat.Coprime (2 ^ 32) u.natAbs := by
        apply Nat.Coprime.pow_left
        rw [Nat.coprime_iff_gcd_eq_one]
        have hodd : u.natAbs % 2 = 1 := by omega
        rw [Nat.gcd_rec, hodd]; decide
      exact this
    have h3 := hco.dvd_of_dvd_mul_right hd2
    have h4 : c = 0 := by
      rcases Nat.eq_zero_or_pos c with h0 | h0
      · exact h0
      · have := Nat.le_of_dvd h0 h3
        omega
    omega
  rcases Nat.le_total i j with hij | hij
  · exact key i j hi hj hij h
  · exact (key j i hj hi hij h.symm).symm

/-- The places of the first k of such steps. -/
def stepsW (f u : Int) (k : Nat) : List (Int × Int) := (List.range k).map fun (j : Nat) => ((f + (j : Int) * u) % 4294967296, 1)
theorem stepsW_succ (f u : Int) (k : Nat) : stepsW f u (k + 1) = stepsW f u k ++ [((f + k * u) % 4294967296, 1)] := by
  simp [stepsW, List.range_succ]
theorem stepsW_len (f u : Int) (k : Nat) : (stepsW f u k).length = k := by simp [stepsW]
theorem hof_steps (f u x : Int) (k : Nat) (h : ∀ j : Nat, j < k → (f + j * u) % 4294967296 ≠ x) : hof (stepsW f u k) x = 0 := by
  apply hof_none
  intro n hm
  obtain ⟨j, hj, e⟩ := List.mem_map.1 hm
  rw [Prod.mk.injEq] at e
  exact h j (List.mem_range.1 hj) e.1
theorem hadd_steps (f u : Int) (k : Nat) (hu : u % 2 = 1) (hk : k < 64) : hadd (stepsW f u k) ((f + k * u) % 4294967296) 1 = (stepsW f u (k + 1), 1) := by
  have h0 := hof_steps f u ((f + k * u) % 4294967296) k (fun j hj e => by have := odd_apart f u j k hu (by omega) hk e; omega)
  unfold hadd
  rw [if_neg (by decide), if_pos h0, if_neg (by rw [stepsW_len]; omega), stepsW_succ]
/-- 64 are counted: another one is not; till one is forgotten. -/
theorem hadd_full (f u o : Int) (h : ∀ j : Nat, j < 64 → (f + j * u) % 4294967296 ≠ o) : hadd (stepsW f u 64) o 1 = (stepsW f u 64, 0) := by
  unfold hadd
  rw [if_neg (by decide), if_pos (hof_steps f u o 64 h), if_pos (by rw [stepsW_len]; omega)]
theorem hof_first (f u : Int) (hf : f % 4294967296 = f) : hof (stepsW f u 64) f ≠ 0 := by
  have e : stepsW f u 64 = (f, 1) :: (List.range 63).map fun (j : Nat) => ((f + ((j + 1 : Nat) : Int) * u) % 4294967296, 1) := by
    unfold stepsW
    rw [List.range_succ_eq_map]
    simp [hf, Function.comp_def]
  rw [e]
  simp [hof]
theorem hforget_full (f u : Int) (hf : f % 4294967296 = f) (hu : u % 2 = 1) : hforget (stepsW f u 64) f = ((stepsW f u 64).filter (fun p => p.1 != f), true) ∧ ((stepsW f u 64).filter (fun p => p.1 != f)).length = 63 := by
  refine ⟨by unfold hforget; rw [if_neg (hof_first f u hf)], ?_⟩
  have e : stepsW f u 64 = (f, 1) :: (List.range 63).map fun (j : Nat) => ((f + ((j + 1 : Nat) : Int) * u) % 4294967296, 1) := by
    unfold stepsW
    rw [List.range_succ_eq_map]
    simp [hf, Function.comp_def]
  rw [e, List.filter_cons_of_neg (by simp), List.filter_eq_self.2, List.length_map, List.length_range]
  intro p hp
  obtain ⟨j, hj, rfl⟩ := List.mem_map.1 hp
  have hj := List.mem_range.1 hj
  simp only [bne_iff_ne]
  intro e2
  have := odd_apart f u (j + 1) 0 hu (by omega) (by omega) (by rw [e2]; simp [hf])
  omega
theorem hadd_again (W : List (Int × Int)) (o : Int) (h0 : hof W o = 0) (hl : W.length = 63) : hadd W o 1 = (W ++ [(o, 1)], 1) := by
  unfold hadd
  rw [if_neg (by decide), if_pos h0, if_neg (by omega)]
theorem hof_filter {W : List (Int × Int)} {f o : Int} (h0 : hof W o = 0) (hg : HGood W) : hof (W.filter fun p => p.1 != f) o = 0 :=
  hof_none fun n hm => hof_zero hg o h0 n (List.mem_filter.1 hm).1
theorem hof_gone (W : List (Int × Int)) (f o : Int) (hne : o ≠ f) : hof ((W.filter fun p => p.1 != f) ++ [(o, 1)]) f = 0 := by
  apply hof_none
  intro n hm
  rcases List.mem_append.1 hm with hm | hm
  · have := (List.mem_filter.1 hm).2
    simp at this
  · have := List.mem_singleton.1 hm
    rw [Prod.mk.injEq] at this
    exact hne this.1.symm

end Go.Proofs.Ytbphciahojjnpaa.HotPlain
