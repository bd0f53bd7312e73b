/- The console: New of a row that is not in order. -/
import Derived.Test.YtfnbpmkbjbibkaaConG
import Derived.Deep.LoopGhost
import Derived.BigQuiet
namespace Go.Proofs.Ytfnbpmkbjbibkaa
open Go Go.RowKit Go.Proofs.YtfnbpmkbjbibkaaW.PrintWords Go.Proofs.Ytfnbpmkbjbibkaa.FifoPlain
set_option linter.unusedVariables false
set_option linter.unusedSimpArgs false

set_option maxRecDepth 100000 in
set_option maxHeartbeats 2000000 in
theorem cnew_bad (w : World) (A : Option Addr) (cl : Nat) (al : List (Int × Int)) (hA : AR w A al) (ll : al.length ≤ 256) (j : Nat) (a b : Int × Int) (hj : al[j]? = some a) (hj1 : al[j + 1]? = some b) (hlt0 : b.1 < a.1) (hs : ∀ i p p', i < j → al[i]? = some p → al[i + 1]? = some p' → p.1 ≤ p'.1) :
    Calls Try.prog 46 #[.slice A al.length cl] w fun e w' => e = .returned (.tuple #[.pointer none, .int .i64 1]) ∧ Drawn0 w w' := by
  have HA := Aside0.mk hA
  have HS := Aside0.mk hs
  have HJ := Aside0.mk (And.intro hj (And.intro hj1 hlt0))
  have hjn : j + 1 < al.length := (List.getElem?_eq_some_iff.1 hj1).1
  clear hA hs hj hj1 hlt0
  obtain ⟨W0, hW0⟩ : ∃ W0, w = W0 := ⟨_, rfl⟩
  obtain ⟨n, hal⟩ : ∃ n, al.length = n := ⟨_, rfl⟩
  have HL := Aside0.mk hal
  rw [hal] at ll hjn ⊢
  clear hal
  have hl : ((256 : Int) < (n : Int)) = False := by simp; omega
  have HD : Aside0 (Drawn0 W0 w) := ⟨hW0 ▸ Drawn0.refl _⟩
  have HA : Aside0 (AR W0 A al) := ⟨hW0 ▸ HA.out⟩
  rw [hW0]
  rw [hW0] at HD
  clear hW0
  go_enter Try.func46, Try.ntmps46
  go_wp2_with fail
  go_loopg [10] n (fun g i wr => ∃ k : Nat, g + k = n ∧ k ≤ j + 1 ∧ i = .int .i64 (k : Int) ∧ Aside0 (Drawn0 W0 wr))
  case atStart => exact ⟨0, rfl, by omega, rfl, HD⟩
  case round =>
    obtain ⟨k, hk, hkj, rfl, hd⟩ := hrel
    obtain ⟨wo, rfl⟩ : ∃ wo : World, wo = wr := ⟨_, rfl⟩
    have hlt : k < n := by omega
    · have hlt' : ((k : Int) < (n : Int)) = True := by simp; omega
      cases k with
      | zero =>
        go_wp2_with fail
        go_quiet (fail)
        have D1 := Aside0.mk (drawn_on hd.out nq)
        go_wp2_with fail
        go_roundg (gk - 1)
        case measure => omega
        case rel => exact ⟨1, by omega, by omega, by congr 1, D1⟩
      | succ k =>
        have hk1 : k + 1 < al.length := by rw [HL.out]; exact hlt
        have hp := List.getElem?_eq_getElem hk1
        have hp' := List.getElem?_eq_getElem (show k < al.length by omega)
        obtain ⟨x, hx, r1, _⟩ := HA.out _ _ hp
        obtain ⟨x', hx', r2, _⟩ := HA.out _ _ hp'
        rw [hx] at hx'
        cases hx'
        subst hx
        by_cases hkj' : k = j
        · subst hkj'
          have hle : al[k + 1].1 < al[k].1 := by
            obtain ⟨g1, g2, g3⟩ := HJ.out
            rw [hp'] at g1
            rw [hp] at g2
            cases g1; cases g2
            exact g3
          generalize al[k + 1].1 = t1 at r1 hle
          generalize al[k].1 = t0 at r2 hle
          have hd1 : decide (t1 < t0) = true := decide_eq_true hle
          have c1 : ∀ n, (wo.drewN n).cell? (x.add ((k + 1) * 2)) = some (.int .u64 t1) := fun n => pw_cell_below (drawn_on hd.out n).below r1
          have c0 : ∀ n, (wo.drewN n).cell? (x.add (k * 2)) = some (.int .u64 t0) := fun n => pw_cell_below (drawn_on hd.out n).below r2
          have q1 : wo.cell? (x.add ((k + 1) * 2)) = some (.int .u64 t1) := c1 0
          have q0 : wo.cell? (x.add (k * 2)) = some (.int .u64 t0) := c0 0
          clear hle hp hp' r1 r2
          have hg : decide ((0 : Int) < ((k + 1 : Nat) : Int)) = true := decide_eq_true (by omega)
          go_wp2_with fail
          go_quiet (fail)
          have D1 := Aside0.mk (drawn_on hd.out nq)
          go_wp2_with fail
          go_ret2
          exact ⟨rfl, D1.out⟩
        · have hkj2 : k < j := by omega
          have hle := HS.out k _ _ hkj2 hp' hp
          generalize al[k + 1].1 = t1 at r1 hle
          generalize al[k].1 = t0 at r2 hle
          have hd1 : decide (t1 < t0) = false := decide_eq_false (by omega)
          have c1 : ∀ n, (wo.drewN n).cell? (x.add ((k + 1) * 2)) = some (.int .u64 t1) := fun n => pw_cell_below (drawn_on hd.out n).below r1
          have c0 : ∀ n, (wo.drewN n).cell? (x.add (k * 2)) = some (.int .u64 t0) := fun n => pw_cell_below (drawn_on hd.out n).below r2
          have q1 : wo.cell? (x.add ((k + 1) * 2)) = some (.int .u64 t1) := c1 0
          have q0 : wo.cell? (x.add (k * 2)) = some (.int .u64 t0) := c0 0
          clear hle hp hp' r1 r2
          have hg : decide ((0 : Int) < ((k + 1 : Nat) : Int)) = true := decide_eq_true (by omega)
          go_wp2_with fail
          go_quiet (fail)
          have D1 := Aside0.mk (drawn_on hd.out nq)
          go_wp2_with fail
          go_roundg (gk - 1)
          case measure => omega
          case rel => exact ⟨k + 2, by omega, by omega, by congr 1, D1⟩
end Go.Proofs.Ytfnbpmkbjbibkaa
