/- A feed's document: an arrival is put in behind all that are not later; done one after the other that is the merge. Plain facts. -/
import Derived.Test.YtdalboofhckobabFeedMerge
namespace Go.Proofs.Ytdalboofhckobab
open Go
set_option linter.unusedVariables false
set_option linter.unusedSimpArgs false

/-- Ticks do not fall. -/
def Ord (l : List (Int × Int)) : Prop := l.Pairwise fun p q => p.1 ≤ q.1
/-- From k down: the place behind the last that is not later than t. -/
def pos (out : List (Int × Int)) (t : Int) : Nat → Nat
  | 0 => 0
  | k + 1 => if (out.getD k (0, 0)).1 > t then pos out t k else k + 1
def ins (out : List (Int × Int)) (p : Int × Int) : List (Int × Int) := out.take (pos out p.1 out.length) ++ [p] ++ out.drop (pos out p.1 out.length)
theorem pos_le (out : List (Int × Int)) (t : Int) : ∀ k, pos out t k ≤ k
  | 0 => Nat.le_refl _
  | k + 1 => by
    unfold pos
    split
    · exact Nat.le_trans (pos_le out t k) (Nat.le_succ k)
    · exact Nat.le_refl _
theorem pos_after (out : List (Int × Int)) (t : Int) : ∀ k i, pos out t k ≤ i → i < k → (out.getD i (0, 0)).1 > t
  | 0, i, _, h => absurd h (Nat.not_lt_zero _)
  | k + 1, i, h, h2 => by
    unfold pos at h
    split at h
    · rcases Nat.lt_or_eq_of_le (Nat.le_of_lt_succ h2) with h3 | h3
      · exact pos_after out t k i h h3
      · subst h3; assumption
    · omega
theorem pos_at (out : List (Int × Int)) (t : Int) : ∀ k, 0 < pos out t k → (out.getD (pos out t k - 1) (0, 0)).1 ≤ t
  | 0, h => absurd h (Nat.lt_irrefl _)
  | k + 1, h => by
    unfold pos at h ⊢
    split
    · rename_i hc
      rw [if_pos hc] at h
      exact pos_at out t k h
    · rename_i hc
      simp only [Nat.add_sub_cancel]
      omega
theorem mrg_one (y : Int × Int) : ∀ (a : List (Int × Int)) (k : Nat), k ≤ a.length → (∀ i, i < k → (a.getD i (0, 0)).1 ≤ y.1) → (∀ i, k ≤ i → i < a.length → (a.getD i (0, 0)).1 > y.1) → mrg a [y] = a.take k ++ [y] ++ a.drop k
  | [], k, hk, _, _ => by
    have : k = 0 := by simpa using hk
    subst this
    simp [nil_mrg]
  | x :: a, 0, hk, _, h2 => by
    have := h2 0 (Nat.le_refl _) (by simp)
    simp only [List.getD_cons_zero] at this
    rw [mrg_gt _ _ (by omega), mrg_nil]
    simp
  | x :: a, k + 1, hk, h1, h2 => by
    have h0 := h1 0 (by omega)
    simp only [List.getD_cons_zero] at h0
    rw [mrg_le _ _ h0, mrg_one y a k (by simpa using hk) (fun i hi => by have := h1 (i + 1) (by omega); simpa using this) (fun i hi hi2 => by have := h2 (i + 1) (by omega) (by simp; omega); simpa using this)]
    simp
theorem Ord.get {a : List (Int × Int)} (h : Ord a) {i j : Nat} (hij : i ≤ j) (hj : j < a.length) : (a.getD i (0, 0)).1 ≤ (a.getD j (0, 0)).1 := by
  rcases Nat.lt_or_eq_of_le hij with hl | rfl
  · have := List.pairwise_iff_getElem.1 h i j (by omega) hj hl
    simpa [List.getD_eq_getElem?_getD, List.getElem?_eq_getElem hj, List.getElem?_eq_getElem (show i < a.length by omega)] using this
  · exact Int.le_refl _
theorem ins_mrg {a : List (Int × Int)} (h : Ord a) (y : Int × Int) : ins a y = mrg a [y] := by
  unfold ins
  refine (mrg_one y a _ (pos_le _ _ _) (fun i hi => ?_) (fun i hi hl => pos_after a y.1 a.length i hi hl)).symm
  have hp := pos_at a y.1 a.length (by omega)
  exact Int.le_trans (h.get (show i ≤ pos a y.1 a.length - 1 by omega) (by have := pos_le a y.1 a.length; omega)) hp
theorem mrg_head {y : Int × Int} {a b : List (Int × Int)} (h : ∀ z ∈ b, y.1 ≤ z.1) : mrg (y :: a) b = y :: mrg a b := by
  cases b with
  | nil => simp [mrg_nil]
  | cons z b => exact mrg_le _ _ (h z (by simp))
theorem mrg_step (y : Int × Int) (b : List (Int × Int)) (h : ∀ z ∈ b, y.1 ≤ z.1) : ∀ a : List (Int × Int), mrg a (y :: b) = mrg (mrg a [y]) b
  | [] => by rw [nil_mrg, nil_mrg, mrg_head h, nil_mrg]
  | x :: a => by
    by_cases hx : x.1 ≤ y.1
    · rw [mrg_le _ _ hx, mrg_le _ _ hx, mrg_head (fun z hz => Int.le_trans hx (h z hz)), mrg_step y b h a]
    · rw [mrg_gt _ _ hx, mrg_gt _ _ hx, mrg_nil, mrg_head h]
theorem mrg_mem {z : Int × Int} {a b : List (Int × Int)} (h : z ∈ mrg a b) : z ∈ a ∨ z ∈ b := by
  simpa [mrg, List.mem_merge] using h
theorem ord_mrg : ∀ (a b : List (Int × Int)), Ord a → Ord b → Ord (mrg a b)
  | [], b, _, hb => by rwa [nil_mrg]
  | x :: a, [], ha, _ => by rwa [mrg_nil]
  | x :: a, y :: b, ha, hb => by
    have ha' := List.pairwise_cons.1 ha
    have hb' := List.pairwise_cons.1 hb
    by_cases hx : x.1 ≤ y.1
    · rw [mrg_le _ _ hx]
      refine List.pairwise_cons.2 ⟨fun z hz => ?_, ord_mrg a (y :: b) ha'.2 hb⟩
      rcases mrg_mem hz with h | h
      · exact ha'.1 z h
      · rcases List.mem_cons.1 h with rfl | h
        · exact hx
        · exact Int.le_trans hx (hb'.1 z h)
    · rw [mrg_gt _ _ hx]
      refine List.pairwise_cons.2 ⟨fun z hz => ?_, ord_mrg (x :: a) b ha hb'.2⟩
      rcases mrg_mem hz with h | h
      · rcases List.mem_cons.1 h with rfl | h
        · omega
        · have := ha'.1 z h; omega
      · exact hb'.1 z h
/-- The document's merge is the program's. -/
theorem ins_all : ∀ (b a : List (Int × Int)), Ord a → Ord b → b.foldl ins a = mrg a b
  | [], a, _, _ => by simp [mrg_nil]
  | y :: b, a, ha, hb => by
    have hb' := List.pairwise_cons.1 hb
    rw [List.foldl_cons, ins_mrg ha, ins_all b _ (ord_mrg _ _ ha (by simp [Ord])) hb'.2, ← mrg_step y b hb'.1]
end Go.Proofs.Ytdalboofhckobab
