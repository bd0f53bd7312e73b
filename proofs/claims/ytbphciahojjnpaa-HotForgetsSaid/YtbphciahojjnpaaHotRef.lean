/- Plain facts: what the statements' own functions on places answer. -/
import Derived.Test.YtbphciahojjnpaaHotTop
import Derived.Test.YtbphciahojjnpaaQHotPlaysx
namespace Go.Proofs.Ytbphciahojjnpaa.HotPlain
open Go Go.RowKit Go.Proofs.YtbphciahojjnpaaW.PrintWords Go.Proofs.YtbphciahojjnpaaW.PrintLast Go.Proofs.YtbphciahojjnpaaW.PrintMore Go.Proofs.Ytbphciahojjnpaa.QHotPlays
set_option linter.unusedVariables false
set_option linter.unusedSimpArgs false

/-- A place as a pair. -/
def pr (x : S83) : Int × Int := (x.f0, x.f1)
def prs (l : List S83) : List (Int × Int) := l.map pr
theorem rd_get (l : List S83) (i : Nat) (h : i < l.length) : rd_T83 l (i : Int) = l[i] := by
  unfold rd_T83
  rw [Int.toNat_natCast, List.getD_eq_getElem?_getD, List.getElem?_eq_getElem h]; rfl
theorem find_no (l : List S83) (pc : Int) (hl : l.length ≤ 64) (h : ∀ q ∈ l, q.f0 ≠ pc) : ∀ (d k i : Nat), i + d = l.length → d < k → mimesisref21_Find.l0 k l pc (i : Int) = some (-1) := by
  intro d
  induction d with
  | zero =>
    intro k i hi hk
    obtain ⟨k, rfl⟩ : ∃ m, k = m + 1 := ⟨k - 1, by omega⟩
    simp only [mimesisref21_Find.l0]
    rw [if_neg (by omega)]
  | succ d ih =>
    intro k i hi hk
    obtain ⟨k, rfl⟩ : ∃ m, k = m + 1 := ⟨k - 1, by omega⟩
    simp only [mimesisref21_Find.l0]
    have hlt : i < l.length := by omega
    rw [if_pos (by omega), if_pos (by omega), rd_get l i hlt, if_neg (h _ (List.getElem_mem hlt))]
    have : wrap64 ((i : Int) + 1) = ((i + 1 : Nat) : Int) := by unfold wrap64; omega
    rw [this]
    exact ih k (i + 1) (by omega) (by omega)
theorem find_yes (l : List S83) (pc : Int) (hl : l.length ≤ 64) (j : Nat) (hj : j < l.length) (hp : l[j].f0 = pc) (hb : ∀ m (hm : m < j), (l[m]'(by omega)).f0 ≠ pc) : ∀ (d k i : Nat), i + d = j → d < k → mimesisref21_Find.l0 k l pc (i : Int) = some (j : Int) := by
  intro d
  induction d with
  | zero =>
    intro k i hi hk
    obtain ⟨k, rfl⟩ : ∃ m, k = m + 1 := ⟨k - 1, by omega⟩
    obtain rfl : i = j := by omega
    simp only [mimesisref21_Find.l0]
    rw [if_pos (by omega), if_pos (by omega), rd_get l i hj, if_pos hp]
  | succ d ih =>
    intro k i hi hk
    obtain ⟨k, rfl⟩ : ∃ m, k = m + 1 := ⟨k - 1, by omega⟩
    simp only [mimesisref21_Find.l0]
    have hlt : i < l.length := by omega
    rw [if_pos (by omega), if_pos (by omega), rd_get l i hlt, if_neg (hb i (by omega))]
    have : wrap64 ((i : Int) + 1) = ((i + 1 : Nat) : Int) := by unfold wrap64; omega
    rw [this]
    exact ih k (i + 1) (by omega) (by omega)
/-- Where an address stands, if it does: its place, and what is put out of the row with it. -/
theorem first_of (l : List S83) (pc : Int) (h : ∃ q ∈ l, q.f0 = pc) : ∃ j, ∃ (hj : j < l.length), l[j].f0 = pc ∧ ∀ m (hm : m < j), (l[m]'(by omega)).f0 ≠ pc := by
  induction l with
  | nil => obtain ⟨q, hq, _⟩ := h; cases hq
  | cons a l ih =>
    by_cases e : a.f0 = pc
    · exact ⟨0, by simp, e, fun m hm => absurd hm (by omega)⟩
    · obtain ⟨q, hq, hp⟩ := h
      rcases List.mem_cons.1 hq with rfl | hq
      · exact absurd hp e
      · obtain ⟨j, hj, h1, h2⟩ := ih ⟨q, hq, hp⟩
        refine ⟨j + 1, by simpa using hj, by simpa using h1, fun m hm => ?_⟩
        cases m with
        | zero => exact e
        | succ m => simpa using h2 m (by omega)

theorem hof_at (l : List S83) (j : Nat) (hj : j < l.length) (hg : HGood (prs l)) : hof (prs l) l[j].f0 = l[j].f1 :=
  hof_mem hg.nodup (List.mem_map.2 ⟨l[j], List.getElem_mem hj, rfl⟩)
theorem not_there (l : List S83) (pc : Int) (hg : HGood (prs l)) : hof (prs l) pc = 0 ↔ ∀ q ∈ l, q.f0 ≠ pc := by
  constructor
  · intro h q hq e
    exact hof_zero hg pc h q.f1 (List.mem_map.2 ⟨q, hq, by rw [← e]; rfl⟩)
  · intro h
    apply hof_none
    intro n hm
    obtain ⟨q, hq, e⟩ := List.mem_map.1 hm
    exact h q hq (by rw [pr, Prod.mk.injEq] at e; exact e.1)
theorem prs_len (l : List S83) : (prs l).length = l.length := by simp [prs]
/-- The two ways of finding. -/
theorem find_all (l : List S83) (pc : Int) (hg : HGood (prs l)) : (hof (prs l) pc = 0 ∧ mimesisref21_Find.f 66 l pc = some (-1)) ∨ (hof (prs l) pc ≠ 0 ∧ ∃ j, ∃ (hj : j < l.length), l[j].f0 = pc ∧ l[j].f1 = hof (prs l) pc ∧ mimesisref21_Find.f 66 l pc = some (j : Int)) := by
  have hl : l.length ≤ 64 := by have := hg.few; rwa [prs_len] at this
  by_cases h : hof (prs l) pc = 0
  · exact .inl ⟨h, find_no l pc hl ((not_there l pc hg).1 h) l.length 66 0 (by omega) (by omega)⟩
  · right
    have : ∃ q ∈ l, q.f0 = pc := by
      apply Classical.byContradiction
      intro hn
      exact h ((not_there l pc hg).2 fun q hq e => hn ⟨q, hq, e⟩)
    obtain ⟨j, hj, h1, h2⟩ := first_of l pc this
    refine ⟨h, j, hj, h1, ?_, find_yes l pc hl j hj h1 h2 j 66 0 (by omega) (by omega)⟩
    rw [← hof_at l j hj hg, h1]

theorem ref_of (l : List S83) (pc : Int) (hg : HGood (prs l)) : mimesisref21_Of.f 66 l pc = some (hof (prs l) pc) := by
  unfold mimesisref21_Of.f
  rcases find_all l pc hg with ⟨h, e⟩ | ⟨h, j, hj, h1, h2, e⟩
  · rw [e, h]; rfl
  · rw [e, Option.bind_some, if_neg (by omega), if_pos (by omega), if_pos (by omega), rd_get l j hj, h2]

theorem nodup_ne (l : List S83) (hg : HGood (prs l)) (i j : Nat) (hi : i < l.length) (hj : j < l.length) (hne : i ≠ j) : l[i].f0 ≠ l[j].f0 := by
  have h := hg.nodup
  rw [prs, List.map_map, List.nodup_iff_pairwise_ne, List.pairwise_iff_getElem] at h
  have key : ∀ a b (ha : a < l.length) (hb : b < l.length), a < b → l[a].f0 ≠ l[b].f0 := fun a b ha hb hab => by
    have := h a b (by simpa using ha) (by simpa using hb) hab
    simpa [pr] using this
  rcases Nat.lt_or_gt_of_ne hne with h | h
  · exact key i j hi hj h
  · exact Ne.symm (key j i hj hi h)

theorem prs_set (l : List S83) (hg : HGood (prs l)) (j : Nat) (hj : j < l.length) (pc v : Int) (hp : l[j].f0 = pc) : prs (l.set j ⟨pc, v⟩) = (prs l).map fun p => if p.1 = pc then (pc, v) else p := by
  apply List.ext_getElem
  · simp [prs]
  · intro i h1 h2
    have hi : i < l.length := by simpa [prs] using h1
    simp only [prs, List.getElem_map, List.getElem_set]
    by_cases e : j = i
    · subst e
      rw [if_pos rfl, pr, pr, if_pos hp]
    · rw [if_neg e, if_neg]
      intro e2
      exact nodup_ne l hg i j hi hj (Ne.symm e) (by rw [hp]; exact e2)
theorem prs_cut (l : List S83) (hg : HGood (prs l)) (j : Nat) (hj : j < l.length) (pc : Int) (hp : l[j].f0 = pc) : prs (l.take j ++ l.drop (j + 1)) = (prs l).filter fun p => p.1 != pc := by
  have hs : l = l.take j ++ l[j] :: l.drop (j + 1) := by simp
  have h1 : ∀ q ∈ l.take j, q.f0 ≠ pc := by
    intro q hq
    obtain ⟨i, hi, rfl⟩ := List.mem_iff_getElem.1 hq
    rw [List.getElem_take, ← hp]
    exact nodup_ne l hg i j (by simp at hi; omega) hj (by simp at hi; omega)
  have h2 : ∀ q ∈ l.drop (j + 1), q.f0 ≠ pc := by
    intro q hq
    obtain ⟨i, hi, rfl⟩ := List.mem_iff_getElem.1 hq
    rw [List.getElem_drop, ← hp]
    exact nodup_ne l hg (j + 1 + i) j (by simp at hi; omega) hj (by omega)
  have e : prs l = prs (l.take j) ++ pr l[j] :: prs (l.drop (j + 1)) := by
    have e2 := congrArg prs hs
    refine e2.trans ?_
    rw [prs, List.map_append, List.map_cons]; rfl
  rw [e, List.filter_append, List.filter_cons_of_neg (by simp [pr, hp]), List.filter_eq_self.2, List.filter_eq_self.2]
  · simp [prs]
  · intro p hq
    obtain ⟨q, hm, rfl⟩ := List.mem_map.1 hq
    have := h2 q hm
    simpa [pr] using this
  · intro p hq
    obtain ⟨q, hm, rfl⟩ := List.mem_map.1 hq
    have := h1 q hm
    simpa [pr] using this

theorem ref_add (l : List S83) (pc n : Int) (hg : HGood (prs l)) (n0 : 0 ≤ n) (n1 : n < 4294967296) : ∃ r1, mimesisref21_Add.f 66 l pc n = some (r1, (hadd (prs l) pc n).2) ∧ prs r1 = (hadd (prs l) pc n).1 := by
  have hl : l.length ≤ 64 := by have := hg.few; rwa [prs_len] at this
  have hr := hg.of pc
  unfold mimesisref21_Add.f hadd
  by_cases hn : n = 0
  · subst hn
    rw [if_pos rfl]
    rcases find_all l pc hg with ⟨h, e⟩ | ⟨h, j, hj, h1, h2, e⟩
    all_goals
      rw [e, Option.bind_some, if_pos rfl, ref_of l pc hg, Option.bind_some]
      exact ⟨_, rfl, rfl⟩
  · rw [if_neg hn]
    rcases find_all l pc hg with ⟨h, e⟩ | ⟨h, j, hj, h1, h2, e⟩
    · rw [e, Option.bind_some, if_neg hn, if_pos (by omega), if_pos h, prs_len]
      by_cases hf : 64 ≤ l.length
      · rw [if_pos (by omega), if_pos hf]
        exact ⟨_, rfl, rfl⟩
      · rw [if_neg (by omega), if_neg hf, Option.bind_some, if_pos (by simp; omega), Option.bind_some, if_pos (by simp; omega)]
        exact ⟨_, rfl, by simp [prs, pr]⟩
    · rw [e, Option.bind_some, if_neg hn, if_neg (by omega), if_neg h, Option.bind_some, if_pos (by simp; omega), Option.bind_some, List.nil_append, if_pos (by omega), if_pos (by omega), Option.bind_some, rd_get l j hj, h1, h2]
      have hv : (mn (IntKind.u64.wrap (IntKind.u64.wrap (hof (prs l) pc) + IntKind.u64.wrap n)) 4294967295) % 4294967296 = hof (prs l) pc + (if 4294967295 - hof (prs l) pc < n then 4294967295 - hof (prs l) pc else n) := by
        generalize hof (prs l) pc = x at hr
        have a1 : IntKind.u64.wrap x = x := by simp [IntKind.wrap, IntKind.bits, IntKind.signed]; omega
        have a2 : IntKind.u64.wrap n = n := by simp [IntKind.wrap, IntKind.bits, IntKind.signed]; omega
        have a3 : IntKind.u64.wrap (x + n) = x + n := by simp [IntKind.wrap, IntKind.bits, IntKind.signed]; omega
        rw [a1, a2, a3]
        unfold mn
        split <;> split <;> omega
      rw [Int.toNat_natCast]
      refine ⟨_, ?_, prs_set l hg j hj pc _ h1⟩
      rw [rd_get _ j (by simpa using hj), List.getElem_set_self, hv]

theorem ref_forget (l : List S83) (pc : Int) (hg : HGood (prs l)) : ∃ r1, mimesisref21_Forget.f 66 l pc = some (r1, (hforget (prs l) pc).2) ∧ prs r1 = (hforget (prs l) pc).1 := by
  have hl : l.length ≤ 64 := by have := hg.few; rwa [prs_len] at this
  unfold mimesisref21_Forget.f hforget
  rcases find_all l pc hg with ⟨h, e⟩ | ⟨h, j, hj, h1, h2, e⟩
  · rw [e, Option.bind_some, if_pos (by omega), if_pos h]
    exact ⟨_, rfl, rfl⟩
  · have hw : wrap64 ((j : Int) + 1) = ((j + 1 : Nat) : Int) := by unfold wrap64; omega
    rw [e, Option.bind_some, if_neg (by omega), if_neg h, Option.bind_some, if_pos (by omega), if_pos (by omega), Option.bind_some, Int.toNat_natCast, List.nil_append, if_pos (by simp; omega), Option.bind_some, hw, if_pos (by omega), if_pos (by omega), Option.bind_some, Int.toNat_natCast, if_pos (by simp; omega)]
    exact ⟨_, rfl, prs_cut l hg j hj pc h1⟩

theorem top_loop (l : List S83) (hl : l.length ≤ 64) : ∀ (d k i : Nat) (b1 b2 : Int), (∀ q ∈ l, 0 < q.f1) → i + d = l.length → d < k → mimesisref21_Top.l0 k l (i : Int) b1 b2 = some ((prs (l.drop i)).foldl bbest (b1, b2)) := by
  intro d
  induction d with
  | zero =>
    intro k i b1 b2 hq hi hk
    obtain ⟨k, rfl⟩ : ∃ m, k = m + 1 := ⟨k - 1, by omega⟩
    simp only [mimesisref21_Top.l0]
    rw [if_neg (by omega), List.drop_of_length_le (by omega)]
    rfl
  | succ d ih =>
    intro k i b1 b2 hq hi hk
    obtain ⟨k, rfl⟩ : ∃ m, k = m + 1 := ⟨k - 1, by omega⟩
    have hlt : i < l.length := by omega
    have hw : wrap64 ((i : Int) + 1) = ((i + 1 : Nat) : Int) := by unfold wrap64; omega
    have hp := hq _ (List.getElem_mem hlt)
    simp only [mimesisref21_Top.l0]
    rw [if_pos (by omega), if_pos (by omega), rd_get l i hlt, hw, List.drop_eq_getElem_cons hlt]
    simp only [prs, List.map_cons, List.foldl_cons]
    have ih' := fun b1 b2 => ih k (i + 1) b1 b2 hq (by omega) (by omega)
    simp only [prs] at ih'
    by_cases c1 : b2 < l[i].f1
    · rw [if_pos c1, ih', show bbest (b1, b2) (pr l[i]) = (l[i].f0, l[i].f1) from if_pos c1]
    · rw [if_neg (by omega)]
      by_cases c2 : l[i].f1 = b2
      · rw [if_pos c2]
        by_cases c3 : l[i].f0 < b1
        · rw [if_pos c3, ih', show bbest (b1, b2) (pr l[i]) = (l[i].f0, l[i].f1) from (if_neg c1).trans (if_pos ⟨c2, hp, c3⟩)]
        · rw [if_neg c3, ih', show bbest (b1, b2) (pr l[i]) = (b1, b2) from (if_neg c1).trans (if_neg fun h => c3 h.2.2)]
      · rw [if_neg c2, ih', show bbest (b1, b2) (pr l[i]) = (b1, b2) from (if_neg c1).trans (if_neg fun h => c2 h.1)]
theorem ref_top (l : List S83) (hg : HGood (prs l)) : mimesisref21_Top.f 66 l = some (htop (prs l)) := by
  have hl : l.length ≤ 64 := by have := hg.few; rwa [prs_len] at this
  have := top_loop l hl l.length 66 0 0 0 (fun q hq => (hg.rng (pr q) (List.mem_map.2 ⟨q, hq, rfl⟩)).2.2.1) (by omega) (by omega)
  rw [List.drop_zero] at this
  exact this

end Go.Proofs.Ytbphciahojjnpaa.HotPlain
