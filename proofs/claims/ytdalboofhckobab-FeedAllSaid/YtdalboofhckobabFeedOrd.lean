/- A feed: are ticks in order? Plain facts. -/
import Derived.Test.YtdalboofhckobabPFeedMergesx
namespace Go.Proofs.Ytdalboofhckobab
open Go Go.RowKit Go.Proofs.YtdalboofhckobabW.PrintWords Go.Proofs.Ytdalboofhckobab.PFeedMerges
set_option linter.unusedVariables false
set_option linter.unusedSimpArgs false

/-- From place i on, d places: no tick falls. -/
def okFrom (l : List S40) : Nat → Nat → Bool
  | _, 0 => true
  | i, d + 1 => if (rd_T40 l ((i + 1 : Nat) : Int)).f0 < (rd_T40 l (i : Int)).f0 then false else okFrom l (i + 1) d
theorem ford_l (l : List S40) (hl : l.length < 100000) : ∀ (d k i : Nat), i + 1 + d = l.length → d < k → feed_ordered.l0 k l (l.length : Int) ((i + 1 : Nat) : Int) = some (okFrom l i d)
  | 0, k + 1, i, hd, hk => by rw [feed_ordered.l0, if_neg (by omega)]; rfl
  | d + 1, k + 1, i, hd, hk => by
    have e1 : wrap64 (((i + 1 : Nat) : Int) - 1) = (i : Int) := by unfold wrap64; omega
    have e2 : wrap64 (((i + 1 : Nat) : Int) + 1) = ((i + 1 + 1 : Nat) : Int) := by unfold wrap64; omega
    rw [feed_ordered.l0, if_pos (by omega), if_pos (by omega), if_pos (by omega), if_pos (by omega), e1, if_pos (by omega), if_pos (by omega), e2, ford_l l hl d k (i + 1) (by omega) (by omega), okFrom]
    split <;> rfl
theorem ford_f (l : List S40) (hl : l.length < 1000) : feed_ordered.f 1001 l = some (okFrom l 0 (l.length - 1)) := by
  rw [feed_ordered.f]
  cases h : l.length with
  | zero => rw [feed_ordered.l0, if_neg (by simp)]; rfl
  | succ n =>
    rw [feed_ordered.l0, if_pos (by omega), if_neg (by omega)]
    have e2 : wrap64 ((0 : Int) + 1) = ((0 + 1 : Nat) : Int) := by unfold wrap64; omega
    rw [e2, ← h, ford_l l (by omega) n 1000 0 (by omega) (by omega)]
    rw [h]; rfl
end Go.Proofs.Ytdalboofhckobab
