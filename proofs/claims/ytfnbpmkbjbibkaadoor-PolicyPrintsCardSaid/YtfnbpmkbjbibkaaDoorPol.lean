/- The policy: a word's choice, by contract. -/
import Derived.Test.YtfnbpmkbjbibkaaDoorDrawn
import Derived.Test.YtfnbpmkbjbibkaaDoorQPolicyParsesx
import Derived.Test.YtfnbpmkbjbibkaaDoorShelf
import Derived.Deep.LoopGhost
import Derived.Deep.WholeRow
import Derived.Laws.Tables
import Derived.WalkLawsBesides
namespace Go.Proofs.YtfnbpmkbjbibkaaDoor
open Go Go.RowKit Go.Proofs.YtfnbpmkbjbibkaaDoor.QPolicyParses Go.Proofs.YtfnbpmkbjbibkaaDoorW.PrintWords
set_option linter.unusedVariables false
set_option linter.unusedSimpArgs false

/-- The kinds' words. -/
def pwords : List (List UInt8) := [[45], [116, 114, 97, 110, 115, 108, 97, 116, 101], [102, 117, 115, 101], [101, 118, 105, 99, 116], [102, 108, 117, 115, 104], [104, 111, 116], [108, 101, 110, 103, 116, 104], [112, 97, 115, 115, 101, 115], [99, 104, 97, 105, 110], [115, 116, 101, 112]]
/-- The table, as the program's text lays it; the library's variable holds some number. -/
def Words (w : World) : Prop := (∀ i s, pwords[i]? = some s → w.cell? ⟨0, i, none⟩ = some (.string ⟨s.toArray⟩)) ∧ ∃ m, w.cell? ⟨1, 0, none⟩ = some (.int .i64 m)
theorem Words.below {w w' : World} (h : Words w) (b : Below w.heap.size w w') : Words w' := by
  obtain ⟨h1, m, h2⟩ := h
  exact ⟨fun i s hi => pw_cell_below b (h1 i s hi), m, pw_cell_below b h2⟩

theorem wordB_get (k : Nat) (hk : k < 10) : pwords[k]? = some (pwords.getD k []) := by
  have : pwords.length = 10 := rfl
  rw [List.getD_eq_getElem?_getD, List.getElem?_eq_getElem (by omega)]; rfl
def wordB (k : Nat) : ByteArray := ⟨(pwords.getD k []).toArray⟩
theorem Words.at {w : World} (h : Words w) (k : Nat) (hk : k < 10) : w.cell? ⟨0, k, none⟩ = some (.string (wordB k)) := h.1 k _ (wordB_get k hk)

theorem presults {P : Program} {fn : Func} {p u : Tmp} {ty : TypeId} (h : fn.results = #[.cell p ty, .tmp u]) (tmps : Array Value) (w : World) (g : Nat) (t : TypeId) (cs : Array Value) (fr : Nat × Nat) (d : TypeDesc)
    (hp : tmps.getD p undef = .pointer (some ⟨g, 0, none⟩)) (hg : w.heap[g]? = some (.cells cs t fr))
    (hu : P.underlying ty = some d) (hd : (match d with | .struct _ | .array _ _ => true | _ => false) = true) (hi : (P.info? ty).map (·.size) = some cs.size) :
    (results fn tmps).run P w = .ok (.tuple #[.agg cs, tmps.getD u undef]) w := by
  rw [results_cell_tmp h]
  have hp' : (asAddr (tmps.getD p undef)).run P w = .ok ⟨g, 0, none⟩ w := by rw [hp]; rfl
  rw [hp']
  simp only [Result.andThen_ok]
  rw [run_loadVar_row w g t ty cs fr d hg hu hd hi]
  rfl

set_option maxRecDepth 100000 in
theorem choice_dash (w : World) (s : ByteArray) (hs : (s.toList == [45]) = true) (hw : Words w) : Calls Tryd.prog 61 #[.string s] w fun e w' => e = .returned (.tuple #[.agg #[.int .i64 0, .int .i64 0], .bool true]) ∧ Below w.heap.size w w' := by
  have HB := fun o => below_alloc (Below.refl w.heap.size w) o
  go_enter Tryd.func61, Tryd.ntmps61
  go_upto_region 1 with fail
  have W1 := Aside0.mk (hw.below (HB (.cells #[.int .i64 0, .int .i64 0] 66)))
  have K1 := Aside0.mk (blk_new w (.cells #[.int .i64 0, .int .i64 0] 66))
  generalize hW : World.alloc w _ = w1 at W1 K1 ⊢
  have B1 : Aside0 (Below w.heap.size w w1) := ⟨hW ▸ HB _⟩
  obtain ⟨B, hB⟩ : ∃ B, w.heap.size = B := ⟨_, rfl⟩
  have HBS := Aside0.mk hB
  rw [hB] at K1 ⊢
  clear hB hW HB hw
  have c0 : w1.cell? ⟨0, 0, none⟩ = some (.string ⟨#[45]⟩) := W1.out.1 0 _ rfl
  have b0 : w1.cell? ⟨B, 0, none⟩ = some (.int .i64 0) := (blk_cell K1.out 0).trans rfl
  have b1 : w1.cell? ⟨B, 1, none⟩ = some (.int .i64 0) := (blk_cell K1.out 1).trans rfl
  have zb := blk_frozen K1.out
  have K2 := Aside0.mk (blk_set (blk_set K1.out 0 (.int .i64 0)) 1 (.int .i64 0))
  have O2 := Aside0.mk (((Only.refl B w1).setCell 0 (.int .i64 0)).setCell 1 (.int .i64 0))
  go_wp2_with fail
  refine bodyPost_ret (presults rfl _ _ B 66 _ (0, 0) _ rfl K2.out Tryd.underlying66 rfl (by kernel_rfl)) rfl ?_
  exact ⟨rfl, O2.out.below (by have := HBS.out; omega) B1.out⟩

set_option maxRecDepth 100000 in
set_option maxHeartbeats 1000000 in
theorem choice_hit (w : World) (s nm ar : ByteArray) (fd : Bool) (K k0 : Nat) (n : Int) (ok : Bool) (hs : (s.toList == [45]) = false) (hw : Words w) (h1 : 1 ≤ k0) (h10 : k0 < 10) (hmiss : ∀ j, 1 ≤ j → j < k0 → ((wordB j).toList == nm.toList) = false) (hhit : ((wordB k0).toList == nm.toList) = true)
    (hC : ∀ w', Below w.heap.size w w' → Calls Tryd.prog 44 #[.string s, .string ⟨#[61]⟩] w' fun e w'' => e = .returned (.tuple #[.string nm, .string ar, .bool fd]) ∧ Drawn0 w' w'') (hN : policy_number.f K ar = some (n, ok)) : Calls Tryd.prog 61 #[.string s] w fun e w' => e = .returned (.tuple #[.agg #[.int .i64 (k0 : Int), .int .i64 n], .bool ok]) ∧ Below w.heap.size w w' := by
  have HB := fun o => below_alloc (Below.refl w.heap.size w) o
  have HC := Aside0.mk hC
  have HN := Aside0.mk hN
  have HM := Aside0.mk hmiss
  have HH := Aside0.mk hhit
  clear hC hN hmiss hhit
  go_enter Tryd.func61, Tryd.ntmps61
  go_upto_region 1 with fail
  have W1 := Aside0.mk (hw.below (HB (.cells #[.int .i64 0, .int .i64 0] 66)))
  have K1 := Aside0.mk (blk_new w (.cells #[.int .i64 0, .int .i64 0] 66))
  generalize hW : World.alloc w _ = w1 at W1 K1 ⊢
  have B1 : Aside0 (Below w.heap.size w w1) := ⟨hW ▸ HB _⟩
  obtain ⟨B, hB⟩ : ∃ B, w.heap.size = B := ⟨_, rfl⟩
  have HBS := Aside0.mk hB
  rw [hB] at K1 ⊢
  clear hB hW HB hw
  have c0 : w1.cell? ⟨0, 0, none⟩ = some (.string ⟨#[45]⟩) := W1.out.1 0 _ rfl
  go_wp2_with fail
  refine (HC.out _ B1.out).mono ?_
  rintro e w2 ⟨rfl, d2⟩
  have W2 := Aside0.mk (W1.out.below d2.below)
  have K2 := Aside0.mk (blk_below K1.out d2.below)
  have B2 := Aside0.mk (drawn_below' B1.out d2)
  clear d2 W1 K1 B1 HC c0
  go_wp2_with fail
  refine (policy_number.calls K ar n ok _ HN.out).mono ?_
  rintro e w3 ⟨rfl, d3⟩
  have W3 := Aside0.mk (W2.out.below d3.below)
  have K3 := Aside0.mk (blk_below K2.out d3.below)
  have B3 := Aside0.mk (drawn_below' B2.out d3)
  clear d3 W2 K2 B2 HN
  have b0 : w3.cell? ⟨B, 0, none⟩ = some (.int .i64 0) := (blk_cell K3.out 0).trans rfl
  have b1 : w3.cell? ⟨B, 1, none⟩ = some (.int .i64 0) := (blk_cell K3.out 1).trans rfl
  have zb := blk_frozen K3.out
  have K4 := Aside0.mk (blk_set (blk_set K3.out 0 (.int .i64 (k0 : Int))) 1 (.int .i64 n))
  have O4 := Aside0.mk (((Only.refl B w3).setCell 0 (.int .i64 (k0 : Int))).setCell 1 (.int .i64 n))
  go_wp2_with fail
  go_loopg [9] 9 (fun g i wr => ∃ k : Nat, g + k = 10 ∧ 1 ≤ k ∧ k ≤ k0 ∧ i = .int .i64 (k : Int) ∧ wr = w3)
  case atStart => exact ⟨1, rfl, Nat.le_refl _, h1, rfl, rfl⟩
  case round =>
    obtain ⟨k, hk, hk1, hkk, rfl, rfl⟩ := hrel
    have ck := W3.out.at k (by omega)
    have hlt : ((k : Int) < 10) = True := by simp; omega
    by_cases he : k = k0
    · subst he
      have ht := HH.out
      generalize wordB k = wb at ck ht
      go_wp2_with fail
      refine bodyPost_ret (presults rfl _ _ B 66 _ (0, 0) _ rfl K4.out Tryd.underlying66 rfl (by kernel_rfl)) rfl ?_
      exact ⟨rfl, O4.out.below (by have := HBS.out; omega) B3.out⟩
    · have ht := HM.out k hk1 (by omega)
      generalize wordB k = wb at ck ht
      go_wp2_with fail
      go_roundg (gk - 1)
      case measure => omega
      case rel => exact ⟨k + 1, by omega, by omega, by omega, by congr 1, rfl⟩
set_option maxRecDepth 100000 in
set_option maxHeartbeats 1000000 in
theorem choice_miss (w : World) (s nm ar : ByteArray) (fd : Bool) (K : Nat) (n : Int) (ok : Bool) (hs : (s.toList == [45]) = false) (hw : Words w) (hmiss : ∀ j, 1 ≤ j → j < 10 → ((wordB j).toList == nm.toList) = false)
    (hC : ∀ w', Below w.heap.size w w' → Calls Tryd.prog 44 #[.string s, .string ⟨#[61]⟩] w' fun e w'' => e = .returned (.tuple #[.string nm, .string ar, .bool fd]) ∧ Drawn0 w' w'') (hN : policy_number.f K ar = some (n, ok)) : Calls Tryd.prog 61 #[.string s] w fun e w' => e = .returned (.tuple #[.agg #[.int .i64 0, .int .i64 0], .bool false]) ∧ Below w.heap.size w w' := by
  have HB := fun o => below_alloc (Below.refl w.heap.size w) o
  have HC := Aside0.mk hC
  have HN := Aside0.mk hN
  have HM := Aside0.mk hmiss
  clear hC hN hmiss
  go_enter Tryd.func61, Tryd.ntmps61
  go_upto_region 1 with fail
  have W1 := Aside0.mk (hw.below (HB (.cells #[.int .i64 0, .int .i64 0] 66)))
  have K1 := Aside0.mk (blk_new w (.cells #[.int .i64 0, .int .i64 0] 66))
  generalize hW : World.alloc w _ = w1 at W1 K1 ⊢
  have B1 : Aside0 (Below w.heap.size w w1) := ⟨hW ▸ HB _⟩
  obtain ⟨B, hB⟩ : ∃ B, w.heap.size = B := ⟨_, rfl⟩
  have HBS := Aside0.mk hB
  rw [hB] at K1 ⊢
  clear hB hW HB hw
  have c0 : w1.cell? ⟨0, 0, none⟩ = some (.string ⟨#[45]⟩) := W1.out.1 0 _ rfl
  go_wp2_with fail
  refine (HC.out _ B1.out).mono ?_
  rintro e w2 ⟨rfl, d2⟩
  have W2 := Aside0.mk (W1.out.below d2.below)
  have K2 := Aside0.mk (blk_below K1.out d2.below)
  have B2 := Aside0.mk (drawn_below' B1.out d2)
  clear d2 W1 K1 B1 HC c0
  go_wp2_with fail
  refine (policy_number.calls K ar n ok _ HN.out).mono ?_
  rintro e w3 ⟨rfl, d3⟩
  have W3 := Aside0.mk (W2.out.below d3.below)
  have K3 := Aside0.mk (blk_below K2.out d3.below)
  have B3 := Aside0.mk (drawn_below' B2.out d3)
  clear d3 W2 K2 B2 HN
  have b0 : w3.cell? ⟨B, 0, none⟩ = some (.int .i64 0) := (blk_cell K3.out 0).trans rfl
  have b1 : w3.cell? ⟨B, 1, none⟩ = some (.int .i64 0) := (blk_cell K3.out 1).trans rfl
  have zb := blk_frozen K3.out
  have K4 := Aside0.mk (blk_set (blk_set K3.out 0 (.int .i64 0)) 1 (.int .i64 0))
  have O4 := Aside0.mk (((Only.refl B w3).setCell 0 (.int .i64 0)).setCell 1 (.int .i64 0))
  go_wp2_with fail
  go_loopg [9] 9 (fun g i wr => ∃ k : Nat, g + k = 10 ∧ 1 ≤ k ∧ k ≤ 10 ∧ i = .int .i64 (k : Int) ∧ wr = w3)
  case atStart => exact ⟨1, rfl, Nat.le_refl _, by omega, rfl, rfl⟩
  case round =>
    obtain ⟨k, hk, hk1, hkk, rfl, rfl⟩ := hrel
    by_cases he : k = 10
    · subst he
      have hlt : (((10 : Nat) : Int) < 10) = False := by simp
      go_wp2_with fail
      refine bodyPost_ret (presults rfl _ _ B 66 _ (0, 0) _ rfl K4.out Tryd.underlying66 rfl (by kernel_rfl)) rfl ?_
      exact ⟨rfl, O4.out.below (by have := HBS.out; omega) B3.out⟩
    · have ck := W3.out.at k (by omega)
      have hlt : ((k : Int) < 10) = True := by simp; omega
      have ht := HM.out k hk1 (by omega)
      generalize wordB k = wb at ck ht
      go_wp2_with fail
      go_roundg (gk - 1)
      case measure => omega
      case rel => exact ⟨k + 1, by omega, by omega, by omega, by congr 1, rfl⟩
end Go.Proofs.YtfnbpmkbjbibkaaDoor
