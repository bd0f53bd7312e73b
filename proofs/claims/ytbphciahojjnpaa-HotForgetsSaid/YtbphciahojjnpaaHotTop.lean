/- Plain facts: the best place does not hang on the order of the places. -/
import Derived.Test.YtbphciahojjnpaaHotPlain
namespace Go.Proofs.Ytbphciahojjnpaa.HotPlain
set_option linter.unusedVariables false

/-- The best of two places. -/
def bbest (b p : Int × Int) : Int × Int := if b.2 < p.2 then p else if p.2 = b.2 ∧ 0 < p.2 ∧ p.1 < b.1 then p else b
/-- The best of all. -/
def htop (W : List (Int × Int)) : Int × Int := W.foldl bbest (0, 0)
theorem bbest_comm (z x y : Int × Int) (hx : 0 < x.2) (hy : 0 < y.2) : bbest (bbest z x) y = bbest (bbest z y) x := by
  obtain ⟨z1, z2⟩ := z; obtain ⟨x1, x2⟩ := x; obtain ⟨y1, y2⟩ := y
  simp only at hx hy
  simp only [bbest]
  by_cases a : z2 < x2 <;> by_cases b : z2 < y2 <;> by_cases c : x2 < y2 <;> by_cases d : y2 < x2 <;> by_cases e : x1 < z1 <;> by_cases f : y1 < z1 <;> by_cases g : x1 < y1 <;> by_cases h : y1 < x1 <;> by_cases i : x2 = z2 <;> by_cases j : y2 = z2 <;> first | omega | (simp [*] <;> (repeat' split) <;> first | rfl | omega | (simp_all <;> omega))
theorem htop_perm {V W : List (Int × Int)} (h : V.Perm W) (hr : ∀ p ∈ V, 0 < p.2) : htop V = htop W :=
  h.foldl_eq' (fun x hx y hy z => bbest_comm z x y (hr x hx) (hr y hy)) _
theorem bbest_nonneg (z p : Int × Int) (hz : 0 ≤ z.2) : 0 ≤ (bbest z p).2 := by
  unfold bbest; repeat' split
  all_goals omega
/-- Free places do not count. -/
theorem top_live (l : Tab) : ∀ (z : Int × Int), 0 ≤ z.2 → l.foldl bbest z = (live l).foldl bbest z := by
  induction l with
  | nil => intro z _; rfl
  | cons p l ih =>
    intro z hz
    rw [List.foldl_cons]
    by_cases hp : p.2 = 0
    · have e : bbest z p = z := by unfold bbest; rw [if_neg (by omega), if_neg (by omega)]
      rw [e, ih z hz]
      unfold live
      rw [List.filter_cons_of_neg (by simp [hp])]
    · rw [ih _ (bbest_nonneg z p hz)]
      unfold live
      rw [List.filter_cons_of_pos (by simpa using hp), List.foldl_cons]

end Go.Proofs.Ytbphciahojjnpaa.HotPlain
