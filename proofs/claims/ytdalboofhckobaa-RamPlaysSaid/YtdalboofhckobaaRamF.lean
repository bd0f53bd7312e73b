/- The memory's pages: Watch, Watched. -/
import Derived.Test.YtdalboofhckobaaRamE
namespace Go.Proofs.Ytdalboofhckobaa
open Go Go.RowKit Go.Proofs.YtdalboofhckobaaW.PrintWords
set_option linter.unusedVariables false
set_option linter.unusedSimpArgs false

section
variable {w : World} {R BB BW BG n k : Nat} {l : List Int} {ws : List Bool} {gs : List Int}
set_option maxRecDepth 100000 in
theorem hasp_calls (p : Int) (h : IsRam w R BB BW BG n k l ws gs) : Calls Try.prog 51 #[.pointer (some ⟨R, 0, none⟩), .int .i64 p] w fun e w' => e = .returned (.bool (decide (0 ≤ p) && decide (p < k))) ∧ Drawn0 w w' := by
  have c2 := h.c2
  clear h
  go_enter Try.func51, Try.ntmps51
  go_wp2
  all_goals go_ret
  all_goals exact ⟨by first | (simp [*]; done) | (simp [*]; omega), Drawn0.refl _⟩
set_option maxRecDepth 100000 in
theorem watch_no (p : Int) (h : IsRam w R BB BW BG n k l ws gs) (hp : (decide (0 ≤ p) && decide (p < k)) = false) : Calls Try.prog 26 #[.pointer (some ⟨R, 0, none⟩), .int .i64 p] w fun e w' => e = .returned (.int .i64 6) ∧ Drawn0 w w' := by
  have HH := hasp_calls p h
  rw [hp] at HH
  have HH := Aside0.mk HH
  clear h hp
  go_enter Try.func26, Try.ntmps26
  go_wp2_with fail
  refine HH.out.mono ?_
  rintro e w1 ⟨rfl, d1⟩
  go_wp2_with fail
  go_ret
  exact ⟨rfl, d1⟩
set_option maxRecDepth 100000 in
theorem watch_yes (p : Nat) (h : IsRam w R BB BW BG n k l ws gs) (hp : p < k) : Calls Try.prog 26 #[.pointer (some ⟨R, 0, none⟩), .int .i64 (p : Int)] w fun e w' => e = .returned (.int .i64 0) ∧ IsRam w' R BB BW BG n k l (ws.set p true) gs ∧ Only BW w w' := by
  have HH := hasp_calls (p : Int) h
  rw [show (decide (0 ≤ (p : Int)) && decide ((p : Int) < k)) = true by simp; omega] at HH
  have HH := Aside0.mk HH
  have H := Aside0.mk h
  have hlt : (p : Int) < (k : Int) := by omega
  clear h
  go_enter Try.func26, Try.ntmps26
  go_wp2_with fail
  refine HH.out.mono ?_
  rintro e w1 ⟨rfl, d1⟩
  have H1 := Aside0.mk (H.out.drawn d1)
  have O1 := Aside0.mk (Only.of_below (B := BW) d1.below)
  have c1 := H1.out.c1
  have cf : w1.cell? ⟨BW, p, none⟩ = some (.bool (ws[p]'(by rw [H1.out.nw]; exact hp))) := H1.out.cf p (List.getElem?_eq_getElem _)
  have zf : ∀ i, w1.frozen? ⟨BW, i, none⟩ = false := blk_frozen H1.out.f
  have HS := Aside0.mk (H1.out.setF p true)
  have HO := Aside0.mk (O1.out.setCell p (.bool true))
  clear d1 H HH
  generalize ws[p]'_ = b0 at cf
  go_wp2_with fail
  go_ret
  exact ⟨rfl, HS.out, HO.out⟩
set_option maxRecDepth 100000 in
theorem watched_yes (p : Nat) (b : Bool) (h : IsRam w R BB BW BG n k l ws gs) (hp : ws[p]? = some b) : Calls Try.prog 27 #[.pointer (some ⟨R, 0, none⟩), .int .i64 (p : Int)] w fun e w' => e = .returned (.bool b) ∧ Drawn0 w w' := by
  have hlt0 : p < k := by have := (List.getElem?_eq_some_iff.1 hp).1; rw [h.nw] at this; exact this
  have HH := hasp_calls (p : Int) h
  rw [show (decide (0 ≤ (p : Int)) && decide ((p : Int) < k)) = true by simp; omega] at HH
  have HH := Aside0.mk HH
  have H := Aside0.mk h
  have HP := Aside0.mk hp
  have hlt : (p : Int) < (k : Int) := by omega
  clear h hp
  go_enter Try.func27, Try.ntmps27
  go_wp2_with fail
  refine HH.out.mono ?_
  rintro e w1 ⟨rfl, d1⟩
  have H1 := Aside0.mk (H.out.drawn d1)
  have D1 := Aside0.mk d1
  have c1 := H1.out.c1
  have cf := H1.out.cf p HP.out
  clear d1 H HH
  go_wp2_with fail
  go_ret
  exact ⟨rfl, D1.out⟩
set_option maxRecDepth 100000 in
theorem watched_no (p : Int) (h : IsRam w R BB BW BG n k l ws gs) (hp : (decide (0 ≤ p) && decide (p < k)) = false) : Calls Try.prog 27 #[.pointer (some ⟨R, 0, none⟩), .int .i64 p] w fun e w' => e = .returned (.bool false) ∧ Drawn0 w w' := by
  have HH := hasp_calls p h
  rw [hp] at HH
  have HH := Aside0.mk HH
  clear h hp
  go_enter Try.func27, Try.ntmps27
  go_wp2_with fail
  refine HH.out.mono ?_
  rintro e w1 ⟨rfl, d1⟩
  go_wp2_with fail
  go_ret
  exact ⟨rfl, d1⟩
set_option maxRecDepth 100000 in
theorem gen_yes (p : Nat) (b : Int) (h : IsRam w R BB BW BG n k l ws gs) (hp : gs[p]? = some b) : Calls Try.prog 28 #[.pointer (some ⟨R, 0, none⟩), .int .i64 (p : Int)] w fun e w' => e = .returned (.int .u64 b) ∧ Drawn0 w w' := by
  have hlt0 : p < k := by have := (List.getElem?_eq_some_iff.1 hp).1; rw [h.ng] at this; exact this
  have HH := hasp_calls (p : Int) h
  rw [show (decide (0 ≤ (p : Int)) && decide ((p : Int) < k)) = true by simp; omega] at HH
  have HH := Aside0.mk HH
  have H := Aside0.mk h
  have HP := Aside0.mk hp
  have hlt : (p : Int) < (k : Int) := by omega
  clear h hp
  go_enter Try.func28, Try.ntmps28
  go_wp2_with fail
  refine HH.out.mono ?_
  rintro e w1 ⟨rfl, d1⟩
  have H1 := Aside0.mk (H.out.drawn d1)
  have D1 := Aside0.mk d1
  have c1 := H1.out.c2
  have cf := H1.out.cg p HP.out
  clear d1 H HH
  go_wp2_with fail
  go_ret
  exact ⟨rfl, D1.out⟩
end
end Go.Proofs.Ytdalboofhckobaa
