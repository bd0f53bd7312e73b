/- The table's methods over the places that are counted: of, add, count, new. -/
import Derived.Test.YtbphciahojjnpaaHotB
namespace Go.Proofs.Ytbphciahojjnpaa
open Go Go.RowKit Go.Deep Go.Proofs.YtbphciahojjnpaaW.PrintWords Go.Proofs.Ytbphciahojjnpaa.HotPlain
set_option linter.unusedVariables false
set_option linter.unusedSimpArgs false

/-- Block B of the world is a table that counts W. -/
def TB (w : World) (B : Nat) (W : List (Int × Int)) : Prop := HGood W ∧ ∃ l, IsH w B l W.length ∧ Inv l ∧ (live l).Perm W
theorem TB.good {w : World} {B : Nat} {W : List (Int × Int)} (h : TB w B W) : HGood W := h.1
theorem TB.lt {w : World} {B : Nat} {W : List (Int × Int)} (h : TB w B W) : B < w.heap.size := by obtain ⟨_, l, h, _⟩ := h; exact h.lt
theorem TB.below {w w' : World} {B : Nat} {W : List (Int × Int)} (h : TB w B W) (k : Below w.heap.size w w') : TB w' B W := by obtain ⟨g, l, h, r⟩ := h; exact ⟨g, l, h.below k, r⟩
theorem TB.only {w w' : World} {B B' : Nat} {W : List (Int × Int)} (h : TB w B W) (k : Only B' w w') (hn : B ≠ B') : TB w' B W := by obtain ⟨g, l, h, r⟩ := h; exact ⟨g, l, h.only k hn, r⟩
theorem TB.drawn {w w' : World} {B : Nat} {W : List (Int × Int)} (h : TB w B W) (k : Drawn0 w w') : TB w' B W := by obtain ⟨g, l, h, r⟩ := h; exact ⟨g, l, h.drawn k, r⟩

theorem free_of {l : Tab} {W : List (Int × Int)} (hi : Inv l) (g : HGood W) (hp : (live l).Perm W) : ∃ e, e < 128 ∧ nA l e = 0 := exists_free hi.len (by rw [hp.length_eq]; have := g.few; omega)

theorem tof_calls (w : World) (B : Nat) (W : List (Int × Int)) (pc : Int) (h : TB w B W) (h0 : 0 ≤ pc) (h1 : pc < 4294967296) : Calls Try.prog 46 #[.pointer (some ⟨B, 0, none⟩), .int .u32 pc] w fun e w' => e = .returned (.int .u32 (hof W pc)) ∧ Drawn0 w w' := by
  obtain ⟨g, l, h, hi, hp⟩ := h
  obtain ⟨e, he, hz⟩ := free_of hi g hp
  obtain ⟨s, hf⟩ := hfound_some l pc e he hz
  rw [← hof_perm hp (nodup_live hi) pc, hof_found hi hf]
  exact of_some w B l _ pc _ s h h0 h1 e he hz hf rfl

theorem tadd_calls (w : World) (B : Nat) (W : List (Int × Int)) (pc n : Int) (h : TB w B W) (h0 : 0 ≤ pc) (h1 : pc < 4294967296) (n0 : 0 ≤ n) (n1 : n < 4294967296) : Calls Try.prog 52 #[.pointer (some ⟨B, 0, none⟩), .int .u32 pc, .int .u32 n] w fun e w' => e = .returned (.int .u32 (hadd W pc n).2) ∧ TB w' B (hadd W pc n).1 ∧ Only B w w' := by
  have hT := h
  obtain ⟨g, l, h, hi, hp⟩ := h
  obtain ⟨e, he, hz⟩ := free_of hi g hp
  obtain ⟨s, hf⟩ := hfound_some l pc e he hz
  have ho : hof W pc = nA l s := by rw [← hof_perm hp (nodup_live hi) pc, hof_found hi hf]
  have gg := good_add g h0 h1 n0 n1
  have hsl : s < l.length := by rw [hi.len]; exact hf.lt
  by_cases hn : n = 0
  · subst hn
    have e1 : hadd W pc 0 = (W, hof W pc) := by unfold hadd; rw [if_pos rfl]
    rw [e1, ho]
    exact (add_zero w B l _ pc _ s h h0 h1 e he hz hf rfl).mono fun e w' ⟨a, b⟩ => ⟨a, hT.drawn b, .of_below b.below⟩
  · have hnb : (n == 0) = false := beq_eq_false_iff_ne.2 hn
    by_cases hx : nA l s = 0
    · by_cases hm : 64 ≤ W.length
      · have e1 : hadd W pc n = (W, 0) := by unfold hadd; rw [if_neg hn, ho, if_pos hx, if_pos hm]
        rw [e1]
        have h64 : W.length = 64 := by have := g.few; omega
        rw [h64] at h
        exact (add_full w B l pc n s h h0 h1 e he hz hf hx hnb).mono fun e w' ⟨a, b⟩ => ⟨a, hT.drawn b, .of_below b.below⟩
      · have e1 : hadd W pc n = (W ++ [(pc, n)], n) := by unfold hadd; rw [if_neg hn, ho, if_pos hx, if_neg hm]
        rw [e1] at gg ⊢
        refine (add_new w B l _ pc n s h h0 h1 e he hz hf hx hnb n0 n1 (by omega) (by omega)).mono fun e w' ⟨a, b, c⟩ => ⟨a, ⟨gg, l.set s (pc, n), ?_, inv_add hi hf hx hn, ?_⟩, c⟩
        · rw [show (((W ++ [(pc, n)]).length : Nat) : Int) = (W.length : Int) + 1 by simp]; exact b
        · exact (live_take hsl hx hn).trans ((List.Perm.cons _ hp).trans (List.perm_append_singleton _ _).symm)
    · have hq : pcA l s = pc := by rcases hf.stop with h' | h'; exact absurd h' hx; exact h'
      have ho' : ¬ hof W pc = 0 := by rw [ho]; exact hx
      have e1 : hadd W pc n = (W.map (fun p => if p.1 = pc then (pc, hof W pc + (if 4294967295 - hof W pc < n then 4294967295 - hof W pc else n)) else p), hof W pc + (if 4294967295 - hof W pc < n then 4294967295 - hof W pc else n)) := by unfold hadd; rw [if_neg hn, if_neg ho']
      rw [e1] at gg ⊢
      have hr := g.of pc
      rw [ho] at hr
      obtain ⟨v, hv⟩ : ∃ v, hof W pc + (if 4294967295 - hof W pc < n then 4294967295 - hof W pc else n) = v := ⟨_, rfl⟩
      simp only [hv] at gg ⊢
      rw [ho] at hv
      have hv0 : v ≠ 0 := by rw [← hv]; split <;> omega
      refine (add_more w B l _ pc n _ v s h h0 h1 e he hz hf rfl hnb n0 n1 (by omega) (by omega) hv).mono fun e w' ⟨a, b, c⟩ => ⟨a, ⟨gg, l.set s (pcA l s, v), by simpa using b, inv_turn hi hf.lt hx hv0, ?_⟩, c⟩
      obtain ⟨r, p1, p2⟩ := live_turn (p := (pcA l s, v)) hsl hx hv0
      rw [hq] at p1 p2 ⊢
      exact p2.trans (perm_turn (p1.symm.trans hp) g.nodup)

set_option maxRecDepth 100000 in
theorem tcount_calls (w : World) (B : Nat) (W : List (Int × Int)) (pc : Int) (h : TB w B W) (h0 : 0 ≤ pc) (h1 : pc < 4294967296) : Calls Try.prog 42 #[.pointer (some ⟨B, 0, none⟩), .int .u32 pc] w fun e w' => e = .returned (.int .u32 (hadd W pc 1).2) ∧ TB w' B (hadd W pc 1).1 ∧ Only B w w' := by
  have HA := Aside0.mk (tadd_calls w B W pc 1 h h0 h1 (by omega) (by omega))
  obtain ⟨r1, hr1⟩ : ∃ r, (hadd W pc 1).1 = r := ⟨_, rfl⟩
  obtain ⟨r2, hr2⟩ : ∃ r, (hadd W pc 1).2 = r := ⟨_, rfl⟩
  rw [hr1, hr2] at HA ⊢
  clear h hr1 hr2
  go_enter Try.func42, Try.ntmps42
  go_wp2_with fail
  refine HA.out.mono ?_
  rintro e w1 ⟨rfl, t1, o1⟩
  have T1 := Aside0.mk t1
  have O1 := Aside0.mk o1
  clear t1 o1
  go_wp2_with fail
  go_ret
  exact ⟨rfl, T1.out, O1.out⟩
set_option maxRecDepth 100000 in
theorem count_nil (w : World) (pc : Int) : Calls Try.prog 42 #[.pointer none, .int .u32 pc] w fun e w' => e = .returned (.int .u32 0) ∧ Drawn0 w w' := by
  go_enter Try.func42, Try.ntmps42
  go_wp2_with fail
  refine (add_nil _ _ _).mono ?_
  rintro e w1 ⟨rfl, d1⟩
  go_wp2_with fail
  go_ret
  exact ⟨rfl, d1⟩

theorem tlen_calls (w : World) (B : Nat) (W : List (Int × Int)) (h : TB w B W) : Calls Try.prog 47 #[.pointer (some ⟨B, 0, none⟩)] w fun e w' => e = .returned (.int .i64 (W.length : Int)) ∧ Drawn0 w w' := by
  obtain ⟨g, l, h, _⟩ := h
  exact len_calls w B l _ h

theorem nA_zero (i : Nat) : nA (List.replicate 128 (0, 0)) i = 0 := by
  unfold nA
  rw [List.getD_eq_getElem?_getD, List.getElem?_replicate]
  split <;> rfl
theorem inv_zero : Inv (List.replicate 128 (0, 0)) :=
  ⟨by simp, fun i _ h => absurd (nA_zero i) h, fun i _ _ _ h => absurd (nA_zero i) h⟩
theorem good_nil : HGood [] := ⟨by simp, by simp, by simp⟩
theorem live_zero : live (List.replicate 128 (0, 0)) = [] := by
  unfold live
  rw [List.filter_eq_nil_iff]
  intro p hp
  rw [(List.mem_replicate.1 hp).2]
  simp
theorem tb_zero {w : World} {B : Nat} (h : w.heap[B]? = some (.cells (hcells (List.replicate 128 (0, 0)) 0) 111 (0, 0))) : TB w B [] :=
  ⟨good_nil, _, ⟨h, by simp⟩, inv_zero, by rw [live_zero]⟩

theorem zero_cells : Try.zeroCells111 = hcells (List.replicate 128 (0, 0)) 0 := by kernel_rfl

set_option maxRecDepth 100000 in
theorem tnew_calls (w : World) : Calls Try.prog 41 #[] w fun e w' => e = .returned (.pointer (some ⟨w.heap.size, 0, none⟩)) ∧ TB w' w.heap.size [] ∧ Below w.heap.size w w' := by
  have HF := Aside0.mk (tb_zero (w := w.alloc (.cells (hcells (List.replicate 128 (0, 0)) 0) 111)) (blk_new w _))
  rw [← zero_cells] at HF
  go_enter Try.func41, Try.ntmps41
  go_wp2_with fail
  go_ret
  exact ⟨rfl, HF.out, below_alloc (Below.refl _ _) _⟩

end Go.Proofs.Ytbphciahojjnpaa
