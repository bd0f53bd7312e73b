/- A feed: both say the same of the order; in order is in order. Plain facts. (PK=PFeedMerges) -/
import Derived.Test.YtdalboofhckobabFeedOrd
import Derived.Test.YtdalboofhckobabFeedIns
namespace Go.Proofs.Ytdalboofhckobab
open Go Go.RowKit Go.Proofs.YtdalboofhckobabW.PrintWords Go.Proofs.Ytdalboofhckobab.PFeedMerges
set_option linter.unusedVariables false
set_option linter.unusedSimpArgs false

theorem rord_l (l : List S40) (hl : l.length < 100000) : ∀ (d k i : Nat), i + 1 + d = l.length → d < k → mimesisref41_ordered.l0 k l ((i + 1 : Nat) : Int) = some (okFrom l i d)
  | 0, k + 1, i, hd, hk => by rw [mimesisref41_ordered.l0, if_neg (by omega)]; rfl
  | d + 1, k + 1, i, hd, hk => by
    have e1 : wrap64 (((i + 1 : Nat) : Int) - 1) = (i : Int) := by unfold wrap64; omega
    have e2 : wrap64 (((i + 1 : Nat) : Int) + 1) = ((i + 1 + 1 : Nat) : Int) := by unfold wrap64; omega
    rw [mimesisref41_ordered.l0, if_pos (by omega), if_pos (by omega), e1, if_pos (by omega), if_pos (by omega), e2, rord_l l hl d k (i + 1) (by omega) (by omega), okFrom]
    split <;> rfl
theorem rord_f (l : List S40) (hl : l.length < 1000) : mimesisref41_ordered.f 1001 l = some (okFrom l 0 (l.length - 1)) := by
  rw [mimesisref41_ordered.f]
  cases h : l.length with
  | zero => rw [mimesisref41_ordered.l0, if_neg (by omega)]; rfl
  | succ n =>
    have := rord_l l (by omega) n 1001 0 (by omega) (by omega)
    exact this
theorem okFrom_adj (l : List S40) : ∀ (d i : Nat), okFrom l i d = true → ∀ j, i ≤ j → j < i + d → (rd_T40 l (j : Int)).f0 ≤ (rd_T40 l ((j + 1 : Nat) : Int)).f0
  | 0, i, _, j, h1, h2 => absurd h2 (by omega)
  | d + 1, i, h, j, h1, h2 => by
    rw [okFrom] at h
    split at h
    · cases h
    · rename_i hc
      rcases Nat.lt_or_eq_of_le h1 with h3 | rfl
      · exact okFrom_adj l d (i + 1) h j h3 (by omega)
      · omega
theorem ord_of (l : List S40) (h : okFrom l 0 (l.length - 1) = true) : Ord (l.map fun x => (x.f0, x.f1)) := by
  have adj := okFrom_adj l _ 0 h
  have mono : ∀ (e i : Nat), i + e < l.length → (rd_T40 l (i : Int)).f0 ≤ (rd_T40 l ((i + e : Nat) : Int)).f0 := by
    intro e
    induction e with
    | zero => intro i _; exact Int.le_refl _
    | succ e ih => intro i hi; exact Int.le_trans (ih i (by omega)) (adj (i + e) (by omega) (by omega))
  rw [Ord, List.pairwise_map]
  refine List.pairwise_iff_getElem.2 fun i j hi hj hij => ?_
  have := mono (j - i) i (by omega)
  rw [show i + (j - i) = j by omega] at this
  simpa [rd_T40, List.getD_eq_getElem?_getD, List.getElem?_eq_getElem hi, List.getElem?_eq_getElem hj] using this
end Go.Proofs.Ytdalboofhckobab
