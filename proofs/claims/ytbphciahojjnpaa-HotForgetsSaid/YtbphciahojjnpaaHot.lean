/- The table's methods, each by its contract. -/
import Derived.Test.YtbphciahojjnpaaOnly
import Derived.Test.YtbphciahojjnpaaHotPlain
import Derived.Test.YtbphciahojjnpaaProg
import Derived.WalkKit
import Derived.RegionTactic
import Derived.LoopTactic
import Derived.Deep.QuietTactic
import Derived.BigQuiet
import Derived.Deep.LoopGhost
import Derived.Deep.RegionWith
namespace Go.Proofs.Ytbphciahojjnpaa
open Go Go.RowKit Go.Deep Go.Proofs.YtbphciahojjnpaaW.PrintWords Go.Proofs.Ytbphciahojjnpaa.HotPlain
set_option linter.unusedVariables false
set_option linter.unusedSimpArgs false

/-- The cells of a table: 128 places, how many. -/
def hcells (l : Tab) (many : Int) : Array Value := ((l.flatMap fun p => [Value.int .u32 p.1, Value.int .u32 p.2]) ++ [Value.int .i64 many]).toArray
theorem pairs_length (l : Tab) : (l.flatMap fun p => [Value.int .u32 p.1, Value.int .u32 p.2]).length = l.length * 2 := by
  induction l with
  | nil => rfl
  | cons p l ih => simp [ih]; omega
theorem pairs_get (l : Tab) : ∀ (i : Nat), i < l.length → (l.flatMap fun p => [Value.int .u32 p.1, Value.int .u32 p.2])[i * 2]? = some (.int .u32 (pcA l i)) ∧ (l.flatMap fun p => [Value.int .u32 p.1, Value.int .u32 p.2])[i * 2 + 1]? = some (.int .u32 (nA l i)) := by
  induction l with
  | nil => intro i h; simp at h
  | cons p l ih =>
    intro i h
    cases i with
    | zero => simp [pcA, nA]
    | succ i =>
      have := ih i (by simpa using h)
      rw [show (i + 1) * 2 = i * 2 + 1 + 1 by omega]
      simpa [pcA, nA] using this
theorem pairs_set (l : Tab) : ∀ (i : Nat) (a b : Int), i < l.length → ((l.flatMap fun p => [Value.int .u32 p.1, Value.int .u32 p.2]).set (i * 2) (.int .u32 a)).set (i * 2 + 1) (.int .u32 b) = ((l.set i (a, b)).flatMap fun p => [Value.int .u32 p.1, Value.int .u32 p.2]) := by
  induction l with
  | nil => intro i a b h; simp at h
  | cons p l ih =>
    intro i a b h
    cases i with
    | zero => simp
    | succ i =>
      have := ih i a b (by simpa using h)
      rw [show (i + 1) * 2 = i * 2 + 1 + 1 by omega]
      simpa using this
theorem pairs_set0 (l : Tab) (i : Nat) (a : Int) (h : i < l.length) : (l.flatMap fun p => [Value.int .u32 p.1, Value.int .u32 p.2]).set (i * 2) (.int .u32 a) = ((l.set i (a, nA l i)).flatMap fun p => [Value.int .u32 p.1, Value.int .u32 p.2]) := by
  rw [← pairs_set l i a (nA l i) h]
  apply List.ext_getElem?
  intro j
  by_cases e : j = i * 2 + 1
  · subst e
    rw [List.getElem?_set_self (by have := pairs_length l; simp only [List.length_set]; omega), List.getElem?_set_ne (by omega)]
    exact (pairs_get l i h).2
  · rw [List.getElem?_set_ne (Ne.symm e)]
theorem pairs_set1 (l : Tab) (i : Nat) (b : Int) (h : i < l.length) : (l.flatMap fun p => [Value.int .u32 p.1, Value.int .u32 p.2]).set (i * 2 + 1) (.int .u32 b) = ((l.set i (pcA l i, b)).flatMap fun p => [Value.int .u32 p.1, Value.int .u32 p.2]) := by
  rw [← pairs_set l i (pcA l i) b h]
  apply List.ext_getElem?
  intro j
  by_cases e : j = i * 2
  · subst e
    rw [List.getElem?_set_ne (by omega), List.getElem?_set_ne (by omega), List.getElem?_set_self (by have := pairs_length l; omega)]
    exact (pairs_get l i h).1
  · by_cases e' : j = i * 2 + 1
    · subst e'
      rw [List.getElem?_set_self (by have := pairs_length l; omega), List.getElem?_set_self (by have := pairs_length l; simp only [List.length_set]; omega)]
    · rw [List.getElem?_set_ne (by omega), List.getElem?_set_ne (by omega), List.getElem?_set_ne (by omega)]

theorem hcells_pc {l : Tab} {m : Int} {i : Nat} (h : i < l.length) : (hcells l m)[i * 2]? = some (.int .u32 (pcA l i)) := by
  simp only [hcells, List.getElem?_toArray]
  rw [List.getElem?_append_left (by rw [pairs_length]; omega)]
  exact (pairs_get l i h).1
theorem hcells_n {l : Tab} {m : Int} {i : Nat} (h : i < l.length) : (hcells l m)[i * 2 + 1]? = some (.int .u32 (nA l i)) := by
  simp only [hcells, List.getElem?_toArray]
  rw [List.getElem?_append_left (by rw [pairs_length]; omega)]
  exact (pairs_get l i h).2
theorem hcells_many {l : Tab} {m : Int} (h : l.length = 128) : (hcells l m)[256]? = some (.int .i64 m) := by
  simp only [hcells, List.getElem?_toArray]
  rw [List.getElem?_append_right (by rw [pairs_length]; omega), pairs_length, h]
  rfl
theorem hcells_set_pc {l : Tab} {m : Int} {i : Nat} (a : Int) (h : i < l.length) : (hcells l m).setIfInBounds (i * 2) (.int .u32 a) = hcells (l.set i (a, nA l i)) m := by
  apply Array.toList_inj.1
  simp only [hcells, Array.toList_setIfInBounds]
  rw [List.set_append_left _ _ (by rw [pairs_length]; omega), pairs_set0 l i a h]
theorem hcells_set_n {l : Tab} {m : Int} {i : Nat} (a : Int) (h : i < l.length) : (hcells l m).setIfInBounds (i * 2 + 1) (.int .u32 a) = hcells (l.set i (pcA l i, a)) m := by
  apply Array.toList_inj.1
  simp only [hcells, Array.toList_setIfInBounds]
  rw [List.set_append_left _ _ (by rw [pairs_length]; omega), pairs_set1 l i a h]
theorem hcells_set_many {l : Tab} {m : Int} (a : Int) (h : l.length = 128) : (hcells l m).setIfInBounds 256 (.int .i64 a) = hcells l a := by
  apply Array.toList_inj.1
  simp only [hcells, Array.toList_setIfInBounds]
  rw [List.set_append_right _ _ (by rw [pairs_length]; omega), pairs_length, h]
  rfl

/-- Block B of the world is a table. -/
def IsH (w : World) (B : Nat) (l : Tab) (m : Int) : Prop := w.heap[B]? = some (.cells (hcells l m) 111 (0, 0)) ∧ l.length = 128
theorem IsH.lt {w : World} {B : Nat} {l : Tab} {m : Int} (h : IsH w B l m) : B < w.heap.size := blk_lt h.1
theorem IsH.below {w w' : World} {B : Nat} {l : Tab} {m : Int} (h : IsH w B l m) (k : Below w.heap.size w w') : IsH w' B l m := ⟨blk_below h.1 k, h.2⟩
theorem IsH.only {w w' : World} {B B' : Nat} {l : Tab} {m : Int} (h : IsH w B l m) (k : Only B' w w') (hn : B ≠ B') : IsH w' B l m := ⟨blk_only h.1 k hn, h.2⟩
theorem IsH.drawn {w w' : World} {B : Nat} {l : Tab} {m : Int} (h : IsH w B l m) (k : Drawn0 w w') : IsH w' B l m := by
  obtain ⟨⟨n, rfl⟩⟩ := k; exact h
theorem IsH.drewN {w : World} {B : Nat} {l : Tab} {m : Int} (n : Nat) (h : IsH w B l m) : IsH (w.drewN n) B l m := h
theorem IsH.pc {w : World} {B : Nat} {l : Tab} {m : Int} (h : IsH w B l m) (i : Nat) (hi : i < 128) : w.cell? ⟨B, i * 2, none⟩ = some (.int .u32 (pcA l i)) := (blk_cell h.1 _).trans (hcells_pc (by rw [h.2]; exact hi))
theorem IsH.n {w : World} {B : Nat} {l : Tab} {m : Int} (h : IsH w B l m) (i : Nat) (hi : i < 128) : w.cell? ⟨B, i * 2 + 1, none⟩ = some (.int .u32 (nA l i)) := (blk_cell h.1 _).trans (hcells_n (by rw [h.2]; exact hi))
theorem IsH.many {w : World} {B : Nat} {l : Tab} {m : Int} (h : IsH w B l m) : w.cell? ⟨B, 256, none⟩ = some (.int .i64 m) := (blk_cell h.1 _).trans (hcells_many h.2)
theorem IsH.fz {w : World} {B : Nat} {l : Tab} {m : Int} (h : IsH w B l m) (i : Nat) : w.frozen? ⟨B, i, none⟩ = false := blk_frozen h.1 i
theorem IsH.setPc {w : World} {B : Nat} {l : Tab} {m : Int} (h : IsH w B l m) (i : Nat) (hi : i < 128) (a : Int) : IsH (w.setCell ⟨B, i * 2, none⟩ (.int .u32 a)) B (l.set i (a, nA l i)) m := by
  refine ⟨?_, by simp [h.2]⟩
  have := blk_set h.1 (i * 2) (.int .u32 a)
  rwa [hcells_set_pc a (by rw [h.2]; exact hi)] at this
theorem IsH.setN {w : World} {B : Nat} {l : Tab} {m : Int} (h : IsH w B l m) (i : Nat) (hi : i < 128) (a : Int) : IsH (w.setCell ⟨B, i * 2 + 1, none⟩ (.int .u32 a)) B (l.set i (pcA l i, a)) m := by
  refine ⟨?_, by simp [h.2]⟩
  have := blk_set h.1 (i * 2 + 1) (.int .u32 a)
  rwa [hcells_set_n a (by rw [h.2]; exact hi)] at this
theorem IsH.setMany {w : World} {B : Nat} {l : Tab} {m : Int} (h : IsH w B l m) (a : Int) : IsH (w.setCell ⟨B, 256, none⟩ (.int .i64 a)) B l a := by
  refine ⟨?_, h.2⟩
  have := blk_set h.1 256 (.int .i64 a)
  rwa [hcells_set_many a h.2] at this

theorem home_def (pc : Int) : ((pc * 2654435761) % 4294967296) / 33554432 = (home pc : Int) := by unfold home; omega

set_option maxRecDepth 100000 in
theorem first_calls (w : World) (pc : Int) (h0 : 0 ≤ pc) (h1 : pc < 4294967296) : Calls Try.prog 64 #[.int .u32 pc] w fun e w' => e = .returned (.int .i64 (home pc)) ∧ Drawn0 w w' := by
  rw [← home_def pc]
  go_enter Try.func64, Try.ntmps64
  go_wp2
  go_ret
  exact ⟨by simp, Drawn0.refl _⟩

set_option maxRecDepth 100000 in
set_option maxHeartbeats 1000000 in
theorem find_any (w : World) (B : Nat) (l : Tab) (m pc : Int) (h : IsH w B l m) (h0 : 0 ≤ pc) (h1 : pc < 4294967296) (e : Nat) (he : e < 128) (hz : nA l e = 0) : Calls Try.prog 63 #[.pointer (some ⟨B, 0, none⟩), .int .u32 pc] w fun e w' => (∃ s, HFound l pc s ∧ e = .returned (.int .i64 (s : Nat))) ∧ Drawn0 w w' := by
  have H := Aside0.mk h
  have HZ := Aside0.mk hz
  clear h hz
  have hh := home_lt pc
  go_enter Try.func63, Try.ntmps63
  go_wp2
  go_step3
  go_wp2_with fail
  refine (first_calls _ pc h0 h1).mono ?_
  rintro e w1 ⟨rfl, d1⟩
  have H1 := Aside0.mk (H.out.drawn d1)
  have D1 := Aside0.mk d1
  clear d1 H
  go_wp2_with fail
  go_step3
  go_wp2_with fail
  have hD : dist (home pc) e < 128 := Nat.mod_lt _ (by decide)
  obtain ⟨D, hDD⟩ : ∃ D, dist (home pc) e = D := ⟨_, rfl⟩
  rw [hDD] at hD
  have HD := Aside0.mk hDD
  clear hDD
  go_loopg [5] D (fun k p wr => ∃ j s : Nat, k + j = D ∧ Aside0 (Passed l pc j ∧ s = (home pc + j) % 128) ∧ s < 128 ∧ p = .int .i64 (s : Nat) ∧ wr = w1)
  case atStart => exact ⟨0, home pc, by omega, ⟨⟨fun d hd => absurd hd (by omega), by omega⟩⟩, hh, rfl, rfl⟩
  case round =>
    obtain ⟨j, s, hk, hP, hs, rfl, rfl⟩ := hrel
    obtain ⟨x, hx⟩ : ∃ x, nA l s = x := ⟨_, rfl⟩
    obtain ⟨y, hy⟩ : ∃ y, pcA l s = y := ⟨_, rfl⟩
    have c1 := H1.out.n s hs
    have c0 := H1.out.pc s hs
    rw [hx] at c1
    rw [hy] at c0
    have HX := Aside0.mk hx
    have HY := Aside0.mk hy
    have hjD : Aside0 (j < 128) := ⟨by omega⟩
    clear hx hy
    by_cases x0 : x = 0
    · subst x0
      go_wp2
      try rw [Exit.noGoto_ret]
      go_ret
      exact ⟨⟨s, by have := hfound_of_passed hP.out.1 hjD.out (.inl (by rw [← hP.out.2]; exact HX.out)); rw [← hP.out.2] at this; exact this, rfl⟩, D1.out⟩
    · have x1 : (x == 0) = false := beq_eq_false_iff_ne.2 x0
      clear x0
      by_cases y0 : y = pc
      · subst y0
        go_wp2
        try rw [Exit.noGoto_ret]
        go_ret
        exact ⟨⟨s, by have := hfound_of_passed hP.out.1 hjD.out (.inr (by rw [← hP.out.2]; exact HY.out)); rw [← hP.out.2] at this; exact this, rfl⟩, D1.out⟩
      · have y1 : (y == pc) = false := beq_eq_false_iff_ne.2 y0
        have HN : Aside0 (Passed l pc (j + 1)) := ⟨fun d hd => by
          rcases Nat.lt_or_eq_of_le (Nat.le_of_lt_succ hd) with h | h
          · exact hP.out.1 d h
          · subst h
            rw [← hP.out.2, HX.out, HY.out]
            exact ⟨beq_eq_false_iff_ne.1 x1, y0⟩⟩
        have HL : Aside0 (j + 1 ≤ D) := ⟨by have := passed_lt HN.out he HZ.out; rw [HD.out] at this; exact this⟩
        clear y0
        go_wp2
        go_roundg (gk - 1)
        case measure => have := HL.out; omega
        case rel => exact ⟨j + 1, (s + 1) % 128, by have := HL.out; omega, ⟨⟨HN.out, by rw [hP.out.2]; omega⟩⟩, Nat.mod_lt _ (by decide), by congr 1, rfl⟩

theorem find_calls (w : World) (B : Nat) (l : Tab) (m pc : Int) (s : Nat) (h : IsH w B l m) (h0 : 0 ≤ pc) (h1 : pc < 4294967296) (e : Nat) (he : e < 128) (hz : nA l e = 0) (hf : HFound l pc s) : Calls Try.prog 63 #[.pointer (some ⟨B, 0, none⟩), .int .u32 pc] w fun e w' => e = .returned (.int .i64 (s : Nat)) ∧ Drawn0 w w' :=
  (find_any w B l m pc h h0 h1 e he hz).mono fun e w' ⟨⟨t, ht, he⟩, d⟩ => ⟨by rw [hfound_one hf ht]; exact he, d⟩

set_option maxRecDepth 100000 in
set_option maxHeartbeats 1000000 in
theorem of_some (w : World) (B : Nat) (l : Tab) (m pc x : Int) (s : Nat) (h : IsH w B l m) (h0 : 0 ≤ pc) (h1 : pc < 4294967296) (e : Nat) (he : e < 128) (hz : nA l e = 0) (hf : HFound l pc s) (hx : nA l s = x) : Calls Try.prog 46 #[.pointer (some ⟨B, 0, none⟩), .int .u32 pc] w fun e w' => e = .returned (.int .u32 x) ∧ Drawn0 w w' := by
  have H := Aside0.mk h
  have hs := hf.lt
  have HF := Aside0.mk (fun w (h : IsH w B l m) => find_calls w B l m pc s h h0 h1 e he hz hf)
  have c1 : ∀ n, (w.drewN n).cell? ⟨B, s * 2 + 1, none⟩ = some (.int .u32 x) := fun n => by rw [← hx]; exact h.n s hs
  have c0 : w.cell? ⟨B, s * 2 + 1, none⟩ = some (.int .u32 x) := c1 0
  clear h hf hx he hz
  go_enter Try.func46, Try.ntmps46
  go_wp2_with fail
  go_quiet (first | (go_at_call 63; (with_reducible refine (HF.out _ (by first | exact H.out | exact IsH.drewN _ H.out)).mono ?_); rintro e w' ⟨rfl, ⟨nd, rfl⟩⟩; (try first | exact ⟨rfl, _, World.drewN_drewN _ _ _⟩ | exact ⟨rfl, _, Eq.trans (World.drewN_drewN _ _ _) (congrArg (World.drewN _) (Nat.add_assoc _ _ _))⟩)))
  all_goals go_wp2
  all_goals go_ret
  all_goals exact ⟨by first | rfl | simp, ⟨⟨_, rfl⟩⟩⟩

set_option maxRecDepth 100000 in
theorem of_nil (w : World) (pc : Int) : Calls Try.prog 46 #[.pointer none, .int .u32 pc] w fun e w' => e = .returned (.int .u32 0) ∧ Drawn0 w w' := by
  go_enter Try.func46, Try.ntmps46
  go_wp2
  go_ret
  exact ⟨rfl, Drawn0.refl _⟩

end Go.Proofs.Ytbphciahojjnpaa
