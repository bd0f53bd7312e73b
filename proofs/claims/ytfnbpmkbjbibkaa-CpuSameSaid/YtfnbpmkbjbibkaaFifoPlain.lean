/- Plain facts on a ring of 16 places, read as a queue: what a push and a pop do to the queue. -/
namespace Go.Proofs.Ytfnbpmkbjbibkaa.FifoPlain

def view (b : List Int) (first n : Nat) : List Int := (List.range n).map fun i => b.getD ((first + i) % 16) 0

theorem view_length (b : List Int) (first n : Nat) : (view b first n).length = n := by simp [view]
theorem view_zero (b : List Int) (first : Nat) : view b first 0 = [] := rfl
theorem view_get (b : List Int) (first n i : Nat) (h : i < n) : (view b first n)[i]? = some (b.getD ((first + i) % 16) 0) := by
  simp [view, h]

theorem view_push (b : List Int) (first n : Nat) (x : Int) (hb : b.length = 16) (hn : n < 16) :
    view (b.set ((first + n) % 16) x) first (n + 1) = view b first n ++ [x] := by
  apply List.ext_getElem
  · simp [view]
  · intro i h1 h2
    simp only [view, List.length_map, List.length_range] at h1
    simp only [view, List.getElem_map, List.getElem_range, List.getElem_append, List.length_map, List.length_range]
    split
    · rename_i hi
      rw [List.getD_eq_getElem?_getD, List.getElem?_set, if_neg (by omega), ← List.getD_eq_getElem?_getD]
    · have : i = n := by omega
      subst this
      rw [List.getD_eq_getElem?_getD, List.getElem?_set, if_pos rfl, if_pos (by omega)]
      simp

theorem view_pop (b : List Int) (first n : Nat) (hn : 0 < n) :
    view b first n = b.getD (first % 16) 0 :: view b ((first + 1) % 16) (n - 1) := by
  obtain ⟨m, rfl⟩ : ∃ m, n = m + 1 := ⟨n - 1, by omega⟩
  simp only [view, List.range_succ_eq_map, List.map_cons, List.map_map, Nat.add_zero, Nat.add_sub_cancel, List.cons.injEq, true_and]
  apply List.map_congr_left
  intro i _
  simp only [Function.comp]
  congr 1
  omega

end Go.Proofs.Ytfnbpmkbjbibkaa.FifoPlain
