/- A console takes arrivals that are in their order, and no more than 256. -/
import Derived.Test.YtdalboofhckobabFeedRApp
import Derived.Deep.LoopGhost
import Derived.Laws.OwnMore
import Derived.Maps.AppendAt
import Derived.WalkSpells
import Derived.Lib.SliceRun
import Derived.BigQuiet
namespace Go.Proofs.Ytdalboofhckobab
open Go Go.RowKit Go.Proofs.YtdalboofhckobabW.PrintWords
set_option linter.unusedVariables false
set_option linter.unusedSimpArgs false

/-- Arrivals in their order, up to place n. -/
def aord (al : List (Int × Int)) (n : Nat) : Prop := ∀ i p p', i + 1 < n → al[i]? = some p → al[i + 1]? = some p' → p.1 ≤ p'.1

theorem drawn_on {a b : World} (h : Drawn0 a b) (n : Nat) : Drawn0 a (b.drewN n) := by
  obtain ⟨⟨m, rfl⟩⟩ := h
  exact ⟨⟨_, World.drewN_drewN _ _ _⟩⟩
theorem owns_form {w : World} {base : Nat} {e : TypeId} {size : Nat} {v : Value} {n : Nat} {xs : List Value} (h : w.ownsRow base e size v n xs) : ∃ A c, v = .slice A n c := by
  rcases h.2 with ⟨rfl, h0⟩ | ⟨g, cap, cur, rfl, _⟩
  · exact ⟨none, 0, by rw [h0]⟩
  · exact ⟨_, cap, rfl⟩
set_option maxRecDepth 100000 in
theorem fnew_weak (w : World) : Calls Try.prog 21 #[] w fun e w' => e = .returned (.pointer (some ⟨w.heap.size, 0, none⟩)) ∧ Below w.heap.size w w' := by
  go_enter Try.func21, Try.ntmps21
  go_wp2
  go_ret
  exact ⟨rfl, below_alloc (Below.refl _ _) _⟩

set_option maxRecDepth 100000 in
theorem clonea_nil (w : World) : Calls Try.prog 20 #[.slice none 0 0] w fun e w' => e = .returned (.slice none 0 0) ∧ Drawn0 w w' := by
  have q22 : ∀ (w : World) (a : Option Addr) (n c n' c' : Nat), (binOp .eql 24 (.slice a n c) (.slice none n' c')).run Try.prog w = .ok (.bool a.isNone) w := fun w a n c n' c' => Lib.run_eql_slice_nil w _ _ a n c n' c' Try.underlying24
  go_enter Try.func20, Try.ntmps20
  go_wp2
  go_ret
  exact ⟨rfl, Drawn0.refl _⟩
set_option maxRecDepth 100000 in
set_option maxHeartbeats 1000000 in
theorem clonea_some (w : World) (ad : Addr) (n c : Nat) (xs : List Value) (hx : xs.length = n * 2) (hn : n ≤ 65536) (hc : ∀ j u, xs[j]? = some u → w.cell? (ad.add j) = some u) (h1 : ∀ u ∈ xs, u.oneCell' = true) : Calls Try.prog 20 #[.slice (some ad) n c] w fun e w' => ∃ v, e = .returned v ∧ w'.ownsRow w.heap.size 40 2 v n xs ∧ Below w.heap.size w w' := by
  obtain ⟨i0, hi, hz0, hz1, hz2⟩ := info_parts (show (Try.prog.info? 40).map (fun i => (i.zero, i.size, i.bytes)) = some (some (.agg #[.int .u64 0, .int .u8 0]), 2, 16) by kernel_rfl)
  have HC := Aside0.mk (fun o j u (hu : xs[j]? = some u) => pw_cell_below (below_alloc (Below.refl _ _) o) (hc j u hu))
  have hown0 : (w.alloc (.cells #[] 40)).ownsRow w.heap.size 40 2 (.slice (some ⟨w.heap.size, 0, none⟩) 0 0) 0 [] := by
    have := World.ownsRow_lit (base := w.heap.size) (e := 40) (size := 2) w #[] 0 (Nat.le_refl _) (by decide) rfl
    simpa using this
  have HO := Aside0.mk hown0
  have HB := Aside0.mk (below_alloc (Below.refl w.heap.size w) (.cells #[] 40))
  have HX := Aside0.mk hx
  have H1 := Aside0.mk h1
  clear hc hown0 hx h1
  have q22 : ∀ (w : World) (a : Option Addr) (n c n' c' : Nat), (binOp .eql 24 (.slice a n c) (.slice none n' c')).run Try.prog w = .ok (.bool a.isNone) w := fun w a n c n' c' => Lib.run_eql_slice_nil w _ _ a n c n' c' Try.underlying24
  go_enter Try.func20, Try.ntmps20
  go_wp2_with (at_builtin; refine wpList_append_own _ rfl (.tmp 5) (.tmp 6) 24 rfl w.heap.size 40 i0 (.agg #[.int .u64 0, .int .u8 0]) 2 16 Try.underlying24 hi hz0 hz1 hz2 rfl (by decide) _ 0 [] rfl HO.out ad n c xs rfl ?h1 ?h2 H1.out ?h3 ?h4 ?h5 ?_; (case h1 => exact HX.out); (case h2 => exact HC.out _); (case h3 => simp only [maxLen]; omega); (case h4 => omega); (case h5 => simp); intro v1 w1 hown1 hgrow1 _; simp only [Nat.zero_add, List.nil_append] at hown1; have hb1 := Aside0.mk (HB.out.grown hgrow1 HB.out.size (fun k hk => (HO.out.lt k hk).1)); have HO1 := Aside0.mk hown1; clear hown1 hgrow1)
  go_ret
  exact ⟨v1, rfl, HO1.out, hb1.out⟩

set_option maxRecDepth 100000 in
set_option maxHeartbeats 2000000 in
theorem cnew_ok (w : World) (A : Option Addr) (cl : Nat) (al : List (Int × Int)) (hA : AR w A al) (hn : A = none → al = [] ∧ cl = 0) (ll : al.length ≤ 256) (hs : aord al al.length) :
    Calls Try.prog 14 #[.slice A al.length cl] w fun e w' => ∃ C, e = .returned (.tuple #[.pointer (some ⟨C, 0, none⟩), .int .i64 0]) ∧ Below w.heap.size w w' := by
  have HA := Aside0.mk hA
  have HN := Aside0.mk hn
  have HS := Aside0.mk hs
  clear hA hn hs
  obtain ⟨W0, hW0⟩ : ∃ W0, w = W0 := ⟨_, rfl⟩
  obtain ⟨n, hal⟩ : ∃ n, al.length = n := ⟨_, rfl⟩
  have HL := Aside0.mk hal
  rw [hal] at ll ⊢
  clear hal
  have hl : ((256 : Int) < (n : Int)) = False := by simp; omega
  have HD : Aside0 (Drawn0 W0 w) := ⟨hW0 ▸ Drawn0.refl _⟩
  have HA : Aside0 (AR W0 A al) := ⟨hW0 ▸ HA.out⟩
  rw [hW0]
  rw [hW0] at HD
  clear hW0
  go_enter Try.func14, Try.ntmps14
  go_wp2_with fail
  go_loopg [10] n (fun g i wr => ∃ k : Nat, g + k = n ∧ i = .int .i64 (k : Int) ∧ Aside0 (Drawn0 W0 wr))
  case atStart => exact ⟨0, rfl, rfl, HD⟩
  case round =>
    obtain ⟨k, hk, rfl, hd⟩ := hrel
    obtain ⟨wo, rfl⟩ : ∃ wo : World, wo = wr := ⟨_, rfl⟩
    by_cases hlt : k < n
    · have hlt' : ((k : Int) < (n : Int)) = True := by simp; omega
      cases k with
      | zero =>
        go_wp2_with fail
        go_quiet (fail)
        have D1 := Aside0.mk (drawn_on hd.out nq)
        go_wp2_with fail
        go_roundg (gk - 1)
        case measure => omega
        case rel => exact ⟨1, by omega, by congr 1, D1⟩
      | succ k =>
        have hk1 : k + 1 < al.length := by rw [HL.out]; exact hlt
        have hp := List.getElem?_eq_getElem hk1
        have hp' := List.getElem?_eq_getElem (show k < al.length by omega)
        obtain ⟨x, hx, r1, _⟩ := HA.out _ _ hp
        obtain ⟨x', hx', r2, _⟩ := HA.out _ _ hp'
        rw [hx] at hx'
        cases hx'
        subst hx
        have hle := HS.out k _ _ hk1 hp' hp
        generalize al[k + 1].1 = t1 at r1 hle
        generalize al[k].1 = t0 at r2 hle
        have hd1 : decide (t1 < t0) = false := decide_eq_false (by omega)
        have c1 : ∀ n, (wo.drewN n).cell? (x.add ((k + 1) * 2)) = some (.int .u64 t1) := fun n => pw_cell_below (drawn_on hd.out n).below r1
        have c0 : ∀ n, (wo.drewN n).cell? (x.add (k * 2)) = some (.int .u64 t0) := fun n => pw_cell_below (drawn_on hd.out n).below r2
        have q1 : wo.cell? (x.add ((k + 1) * 2)) = some (.int .u64 t1) := c1 0
        have q0 : wo.cell? (x.add (k * 2)) = some (.int .u64 t0) := c0 0
        clear hle hp hp' r1 r2
        have hg : decide ((0 : Int) < ((k + 1 : Nat) : Int)) = true := decide_eq_true (by omega)
        go_wp2_with fail
        go_quiet (fail)
        have D1 := Aside0.mk (drawn_on hd.out nq)
        go_wp2_with fail
        go_roundg (gk - 1)
        case measure => omega
        case rel => exact ⟨k + 2, by omega, by congr 1, D1⟩
    · obtain rfl : k = n := by omega
      have hlt' : ((k : Int) < (k : Int)) = False := by simp
      go_wp2_with fail
      have HC : Aside0 (Calls Try.prog 20 #[.slice A k cl] wo fun e w' => ∃ v, e = .returned v ∧ w'.ownsRow wo.heap.size 40 2 v k (cells2 al) ∧ Below wo.heap.size wo w') := by
        refine ⟨?_⟩
        cases A with
        | none =>
          obtain ⟨rfl, rfl⟩ := HN.out rfl
          have h0 := HL.out
          simp only [List.length_nil] at h0
          subst h0
          exact (clonea_nil wo).mono fun e w' ⟨he, d⟩ => ⟨_, he, World.ownsRow_nil _ _ _ _, d.below⟩
        | some x => exact clonea_some wo x k cl (cells2 al) (by rw [cells2_length, HL.out]) (by omega) (HA.out.below hd.out.below).news fun u hu => cells2_cell hu
      refine HC.out.mono ?_
      rintro e w1 ⟨v, rfl, o1, b1⟩
      obtain ⟨A1, c1, rfl⟩ := owns_form o1
      have B1 := Aside0.mk (below_on hd.out.below b1)
      clear o1 b1 HC
      go_wp2_with fail
      refine (fnew_weak _).mono ?_
      rintro e w2 ⟨rfl, b2⟩
      have B2 := Aside0.mk (below_on B1.out b2)
      clear b2
      go_wp2_with fail
      go_ret2
      exact ⟨_, rfl, below_alloc B2.out _⟩
/-- Sorted arrivals, as a walk asks for them. -/
theorem aord_of {al : List (Int × Int)} (h : Ord al) : aord al al.length := fun i p p' hi h1 h2 => by
  have := List.pairwise_iff_getElem.1 h i (i + 1) (by omega) hi (by omega)
  rw [List.getElem?_eq_getElem (by omega)] at h1 h2
  cases h1; cases h2
  exact this
end Go.Proofs.Ytdalboofhckobab
