/- The console: New. -/
import Derived.Test.YtonfblfbmnepoaaConD
import Derived.Deep.LoopGhost
import Derived.BigQuiet
namespace Go.Proofs.Ytonfblfbmnepoaa
open Go Go.RowKit Go.Proofs.YtonfblfbmnepoaaW.PrintWords Go.Proofs.Ytonfblfbmnepoaa.FifoPlain
set_option linter.unusedVariables false
set_option linter.unusedSimpArgs false

/-- Arrivals in their order, up to place n. -/
def aord (al : List (Int × Int)) (n : Nat) : Prop := ∀ i p p', i + 1 < n → al[i]? = some p → al[i + 1]? = some p' → p.1 ≤ p'.1

set_option maxRecDepth 100000 in
theorem cnew_long (w : World) (A : Option Addr) (n cl : Nat) (hn : 256 < n) : Calls Try.prog 31 #[.slice A n cl] w fun e w' => e = .returned (.tuple #[.pointer none, .int .i64 3]) ∧ Drawn0 w w' := by
  have h : ((256 : Int) < (n : Int)) = True := by simp; omega
  go_enter Try.func31, Try.ntmps31
  go_wp2
  go_ret2
  exact ⟨rfl, Drawn0.refl _⟩

theorem drawn_on {a b : World} (h : Drawn0 a b) (n : Nat) : Drawn0 a (b.drewN n) := by
  obtain ⟨⟨m, rfl⟩⟩ := h
  exact ⟨⟨_, World.drewN_drewN _ _ _⟩⟩
theorem owns_form {w : World} {base : Nat} {e : TypeId} {size : Nat} {v : Value} {n : Nat} {xs : List Value} (h : w.ownsRow base e size v n xs) : ∃ A c, v = .slice A n c := by
  rcases h.2 with ⟨rfl, h0⟩ | ⟨g, cap, cur, rfl, _⟩
  · exact ⟨none, 0, by rw [h0]⟩
  · exact ⟨_, cap, rfl⟩
theorem newCon (w : World) (av : Value) (F : Nat) (base : Nat) (al : List (Int × Int)) (hf : IsF w F []) (ha : w.ownsRow base 61 2 av al.length (acells al)) (hb : base ≤ F) (wa : ∀ p ∈ al, (0 ≤ p.1 ∧ p.1 < 18446744073709551616) ∧ 0 ≤ p.2 ∧ p.2 < 256) (ll : al.length ≤ 256) : IsCon (w.alloc (.cells #[av, .int .i64 0, .pointer (some ⟨F, 0, none⟩), .bool false, .slice none 0 0] 97)) (fun k => base ≤ k ∧ k < w.heap.size + 1) w.heap.size F av (.slice none 0 0) al 0 [] false [] :=
  ⟨blk_new w _, hf.below (below_alloc (Below.refl _ _) _), con_zero_base (ha.alloc _) (Nat.zero_le _), World.ownsRow_nil _ _ _ _, ⟨by have := hf.lt; omega, by omega⟩, ⟨hb, by have := hf.lt; omega⟩, fun g hg => ⟨(ha.lt g hg).1, by have := (ha.lt g hg).2; omega⟩, fun g hg => (by cases hg), fun k hk => (by rw [World.size_alloc]; exact hk.2), wa, (by simp), ll, Nat.zero_le _⟩

set_option maxRecDepth 100000 in
set_option maxHeartbeats 2000000 in
theorem cnew_yes (w : World) (A : Option Addr) (cl : Nat) (al : List (Int × Int)) (hA : AR w A al) (hn : A = none → al = [] ∧ cl = 0) (wa : ∀ p ∈ al, (0 ≤ p.1 ∧ p.1 < 18446744073709551616) ∧ 0 ≤ p.2 ∧ p.2 < 256) (ll : al.length ≤ 256) (hs : aord al al.length) :
    Calls Try.prog 31 #[.slice A al.length cl] w fun e w' => ∃ C F av, e = .returned (.tuple #[.pointer (some ⟨C, 0, none⟩), .int .i64 0]) ∧ IsCon w' (fun k => w.heap.size ≤ k ∧ k < w'.heap.size) C F av (.slice none 0 0) al 0 [] false [] ∧ Below w.heap.size w w' := by
  have HA := Aside0.mk hA
  have HN := Aside0.mk hn
  have WA := Aside0.mk wa
  have HS := Aside0.mk hs
  clear hA hn wa hs
  obtain ⟨W0, hW0⟩ : ∃ W0, w = W0 := ⟨_, rfl⟩
  obtain ⟨n, hal⟩ : ∃ n, al.length = n := ⟨_, rfl⟩
  have HL := Aside0.mk hal
  rw [hal] at ll ⊢
  clear hal
  have hl : ((256 : Int) < (n : Int)) = False := by simp; omega
  have HD : Aside0 (Drawn0 W0 w) := ⟨hW0 ▸ Drawn0.refl _⟩
  have HA : Aside0 (AR W0 A al) := ⟨hW0 ▸ HA.out⟩
  rw [hW0]
  rw [hW0] at HD
  clear hW0
  go_enter Try.func31, Try.ntmps31
  go_wp2_with fail
  go_loopg [10] n (fun g i wr => ∃ k : Nat, g + k = n ∧ i = .int .i64 (k : Int) ∧ Aside0 (Drawn0 W0 wr))
  case atStart => exact ⟨0, rfl, rfl, HD⟩
  case round =>
    obtain ⟨k, hk, rfl, hd⟩ := hrel
    obtain ⟨wo, rfl⟩ : ∃ wo : World, wo = wr := ⟨_, rfl⟩
    by_cases hlt : k < n
    · have hlt' : ((k : Int) < (n : Int)) = True := by simp; omega
      cases k with
      | zero =>
        go_wp2_with fail
        go_quiet (fail)
        have D1 := Aside0.mk (drawn_on hd.out nq)
        go_wp2_with fail
        go_roundg (gk - 1)
        case measure => omega
        case rel => exact ⟨1, by omega, by congr 1, D1⟩
      | succ k =>
        have hk1 : k + 1 < al.length := by rw [HL.out]; exact hlt
        have hp := List.getElem?_eq_getElem hk1
        have hp' := List.getElem?_eq_getElem (show k < al.length by omega)
        obtain ⟨x, hx, r1, _⟩ := HA.out _ _ hp
        obtain ⟨x', hx', r2, _⟩ := HA.out _ _ hp'
        rw [hx] at hx'
        cases hx'
        subst hx
        have hle := HS.out k _ _ hk1 hp' hp
        generalize al[k + 1].1 = t1 at r1 hle
        generalize al[k].1 = t0 at r2 hle
        have hd1 : decide (t1 < t0) = false := decide_eq_false (by omega)
        have c1 : ∀ n, (wo.drewN n).cell? (x.add ((k + 1) * 2)) = some (.int .u64 t1) := fun n => pw_cell_below (drawn_on hd.out n).below r1
        have c0 : ∀ n, (wo.drewN n).cell? (x.add (k * 2)) = some (.int .u64 t0) := fun n => pw_cell_below (drawn_on hd.out n).below r2
        have q1 : wo.cell? (x.add ((k + 1) * 2)) = some (.int .u64 t1) := c1 0
        have q0 : wo.cell? (x.add (k * 2)) = some (.int .u64 t0) := c0 0
        clear hle hp hp' r1 r2
        have hg : decide ((0 : Int) < ((k + 1 : Nat) : Int)) = true := decide_eq_true (by omega)
        go_wp2_with fail
        go_quiet (fail)
        have D1 := Aside0.mk (drawn_on hd.out nq)
        go_wp2_with fail
        go_roundg (gk - 1)
        case measure => omega
        case rel => exact ⟨k + 2, by omega, by congr 1, D1⟩
    · obtain rfl : k = n := by omega
      have hlt' : ((k : Int) < (k : Int)) = False := by simp
      go_wp2_with fail
      have HC := clonea_calls wo A cl al (fun i p hp => (HA.out.below hd.out.below) i p hp) HN.out (by rw [HL.out]; exact ll)
      rw [HL.out] at HC
      have HC := Aside0.mk HC
      refine HC.out.mono ?_
      rintro e w1 ⟨v, rfl, o1, b1⟩
      obtain ⟨A1, c1, rfl⟩ := owns_form o1
      have O1 := Aside0.mk o1
      have B1 := Aside0.mk (below_on hd.out.below b1)
      have b2sz := Aside0.mk B1.out.size
      clear o1 b1 HC
      go_wp2_with fail
      refine (new_calls _).mono ?_
      rintro e w2 ⟨rfl, f2, b2⟩
      have F2 := Aside0.mk f2
      have O2 := Aside0.mk (owns_below O1.out b2)
      have B2 := Aside0.mk (below_on B1.out b2)
      clear f2 b2
      go_wp2_with fail
      go_ret2
      have o2 := O2.out
      have hl0 := HL.out
      have hb2 := B2.out
      have hsz := b2sz.out
      have hI := newCon w2 (.slice A1 k c1) w1.heap.size W0.heap.size al F2.out (by rw [hl0]; exact con_zero_base o2 hd.out.below.size) hsz WA.out (by rw [hl0]; exact ll)
      exact ⟨w2.heap.size, w1.heap.size, .slice A1 k c1, rfl, by simpa only [World.size_alloc] using hI, below_alloc B2.out _⟩
end Go.Proofs.Ytonfblfbmnepoaa
