/- The console, made since W: its methods by contract; its statements' 'awake'. -/
import Derived.Test.YtfnbpmkbjbibkaaCon
import Derived.Laws.OwnMore
import Derived.Maps.AppendAt
import Derived.WalkSpells
import Derived.Lib.SliceRun
import Derived.Deep.LoopGhost
import Derived.BigQuiet
import Derived.StillTailTactics
namespace Go.Proofs.Ytfnbpmkbjbibkaa
open Go Go.RowKit Go.Proofs.YtfnbpmkbjbibkaaW.PrintWords Go.Proofs.Ytfnbpmkbjbibkaa.FifoPlain
set_option linter.unusedVariables false
set_option linter.unusedSimpArgs false

theorem con_zero_base {w : World} {base b' : Nat} {e : TypeId} {size : Nat} {v : Value} {n : Nat} {xs : List Value} (h : w.ownsRow base e size v n xs) (hb : b' ≤ base) : w.ownsRow b' e size v n xs :=
  ⟨h.1, h.2.imp id (fun ⟨g, cap, cur, a, b, c⟩ => ⟨g, cap, cur, a, Nat.le_trans hb b, c⟩)⟩
theorem grown_below {w w' : World} {row : Option Nat} {base : Nat} (h : w.grownBy w' row) (hr : ∀ g, row = some g → base ≤ g) (hb : base ≤ w.heap.size) : Below base w w' :=
  (Below.refl base w).grown h hb hr

set_option maxRecDepth 100000 in
theorem cloneb_nil (w : World) : Calls Try.prog 71 #[.slice none 0 0] w fun e w' => e = .returned (.slice none 0 0) ∧ Drawn0 w w' := by
  have q22 : ∀ (w : World) (a : Option Addr) (n c n' c' : Nat), (binOp .eql 40 (.slice a n c) (.slice none n' c')).run Try.prog w = .ok (.bool a.isNone) w := fun w a n c n' c' => Lib.run_eql_slice_nil w _ _ a n c n' c' Try.underlying40
  go_enter Try.func71, Try.ntmps71
  go_wp2
  go_ret
  exact ⟨rfl, Drawn0.refl _⟩
set_option maxRecDepth 100000 in
set_option maxHeartbeats 1000000 in
theorem cloneb_some (w : World) (ad : Addr) (n c : Nat) (xs : List Value) (hx : xs.length = n) (hn : n ≤ 65536) (hc : ∀ j u, xs[j]? = some u → w.cell? (ad.add j) = some u) (h1 : ∀ u ∈ xs, u.oneCell' = true) : Calls Try.prog 71 #[.slice (some ad) n c] w fun e w' => ∃ v, e = .returned v ∧ w'.ownsRow w.heap.size 5 1 v n xs ∧ Below w.heap.size w w' := by
  obtain ⟨i0, hi, hz0, hz1, hz2⟩ := info_parts (show (Try.prog.info? 5).map (fun i => (i.zero, i.size, i.bytes)) = some (some (.int .u8 0), 1, 1) by kernel_rfl)
  have HC := Aside0.mk (fun o j u (hu : xs[j]? = some u) => pw_cell_below (below_alloc (Below.refl _ _) o) (hc j u hu))
  have hown0 : (w.alloc (.cells #[] 5)).ownsRow w.heap.size 5 1 (.slice (some ⟨w.heap.size, 0, none⟩) 0 0) 0 [] := by
    have := World.ownsRow_lit (base := w.heap.size) (e := 5) (size := 1) w #[] 0 (Nat.le_refl _) (by decide) rfl
    simpa using this
  have HO := Aside0.mk hown0
  have HB := Aside0.mk (below_alloc (Below.refl w.heap.size w) (.cells #[] 5))
  have HX := Aside0.mk hx
  have H1 := Aside0.mk h1
  clear hc hown0 hx h1
  have q22 : ∀ (w : World) (a : Option Addr) (n c n' c' : Nat), (binOp .eql 40 (.slice a n c) (.slice none n' c')).run Try.prog w = .ok (.bool a.isNone) w := fun w a n c n' c' => Lib.run_eql_slice_nil w _ _ a n c n' c' Try.underlying40
  go_enter Try.func71, Try.ntmps71
  go_wp2_with (at_builtin; refine wpList_append_own _ rfl (.tmp 5) (.tmp 6) 40 rfl w.heap.size 5 i0 (.int .u8 0) 1 1 Try.underlying40 hi hz0 hz1 hz2 rfl (by decide) _ 0 [] rfl HO.out ad n c xs rfl ?h1 ?h2 H1.out ?h3 ?h4 ?h5 ?_; (case h1 => rw [HX.out, Nat.mul_one]); (case h2 => exact HC.out _); (case h3 => simp only [maxLen]; omega); (case h4 => omega); (case h5 => simp); intro v1 w1 hown1 hgrow1 _; simp only [Nat.zero_add, List.nil_append] at hown1; have hb1 := Aside0.mk (HB.out.grown hgrow1 HB.out.size (fun k hk => (HO.out.lt k hk).1)); have HO1 := Aside0.mk hown1; clear hown1 hgrow1)
  go_ret
  exact ⟨v1, rfl, HO1.out, hb1.out⟩

set_option maxRecDepth 100000 in
theorem clonea_nil (w : World) : Calls Try.prog 75 #[.slice none 0 0] w fun e w' => e = .returned (.slice none 0 0) ∧ Drawn0 w w' := by
  have q22 : ∀ (w : World) (a : Option Addr) (n c n' c' : Nat), (binOp .eql 23 (.slice a n c) (.slice none n' c')).run Try.prog w = .ok (.bool a.isNone) w := fun w a n c n' c' => Lib.run_eql_slice_nil w _ _ a n c n' c' Try.underlying23
  go_enter Try.func75, Try.ntmps75
  go_wp2
  go_ret
  exact ⟨rfl, Drawn0.refl _⟩
set_option maxRecDepth 100000 in
set_option maxHeartbeats 1000000 in
theorem clonea_some (w : World) (ad : Addr) (n c : Nat) (xs : List Value) (hx : xs.length = n * 2) (hn : n ≤ 65536) (hc : ∀ j u, xs[j]? = some u → w.cell? (ad.add j) = some u) (h1 : ∀ u ∈ xs, u.oneCell' = true) : Calls Try.prog 75 #[.slice (some ad) n c] w fun e w' => ∃ v, e = .returned v ∧ w'.ownsRow w.heap.size 145 2 v n xs ∧ Below w.heap.size w w' := by
  obtain ⟨i0, hi, hz0, hz1, hz2⟩ := info_parts (show (Try.prog.info? 145).map (fun i => (i.zero, i.size, i.bytes)) = some (some (.agg #[.int .u64 0, .int .u8 0]), 2, 16) by kernel_rfl)
  have HC := Aside0.mk (fun o j u (hu : xs[j]? = some u) => pw_cell_below (below_alloc (Below.refl _ _) o) (hc j u hu))
  have hown0 : (w.alloc (.cells #[] 145)).ownsRow w.heap.size 145 2 (.slice (some ⟨w.heap.size, 0, none⟩) 0 0) 0 [] := by
    have := World.ownsRow_lit (base := w.heap.size) (e := 145) (size := 2) w #[] 0 (Nat.le_refl _) (by decide) rfl
    simpa using this
  have HO := Aside0.mk hown0
  have HB := Aside0.mk (below_alloc (Below.refl w.heap.size w) (.cells #[] 145))
  have HX := Aside0.mk hx
  have H1 := Aside0.mk h1
  clear hc hown0 hx h1
  have q22 : ∀ (w : World) (a : Option Addr) (n c n' c' : Nat), (binOp .eql 23 (.slice a n c) (.slice none n' c')).run Try.prog w = .ok (.bool a.isNone) w := fun w a n c n' c' => Lib.run_eql_slice_nil w _ _ a n c n' c' Try.underlying23
  go_enter Try.func75, Try.ntmps75
  go_wp2_with (at_builtin; refine wpList_append_own _ rfl (.tmp 5) (.tmp 6) 23 rfl w.heap.size 145 i0 (.agg #[.int .u64 0, .int .u8 0]) 2 16 Try.underlying23 hi hz0 hz1 hz2 rfl (by decide) _ 0 [] rfl HO.out ad n c xs rfl ?h1 ?h2 H1.out ?h3 ?h4 ?h5 ?_; (case h1 => exact HX.out); (case h2 => exact HC.out _); (case h3 => simp only [maxLen]; omega); (case h4 => omega); (case h5 => simp); intro v1 w1 hown1 hgrow1 _; simp only [Nat.zero_add, List.nil_append] at hown1; have hb1 := Aside0.mk (HB.out.grown hgrow1 HB.out.size (fun k hk => (HO.out.lt k hk).1)); have HO1 := Aside0.mk hown1; clear hown1 hgrow1)
  go_ret
  exact ⟨v1, rfl, HO1.out, hb1.out⟩

section
variable {X : Nat → Prop} {C F : Nat} {av vo : Value} {al : List (Int × Int)} {came : Nat} {q : List Int} {over : Bool} {out : List Int}

end
end Go.Proofs.Ytfnbpmkbjbibkaa

namespace Go.Proofs.Ytfnbpmkbjbibkaa
open Go Go.RowKit Go.Proofs.YtfnbpmkbjbibkaaW.PrintWords Go.Proofs.Ytfnbpmkbjbibkaa.FifoPlain
set_option linter.unusedVariables false
set_option linter.unusedSimpArgs false

/-- The row at A reads as these arrivals. -/
def AR (w : World) (A : Option Addr) (al : List (Int × Int)) : Prop := ∀ i p, al[i]? = some p → ∃ x, A = some x ∧ w.cell? (x.add (i * 2)) = some (.int .u64 p.1) ∧ w.cell? (x.add (i * 2 + 1)) = some (.int .u8 p.2)
theorem AR.below {w w' : World} {A : Option Addr} {al : List (Int × Int)} (h : AR w A al) (k : Below w.heap.size w w') : AR w' A al := fun i p hp => by
  obtain ⟨x, hx, h1, h2⟩ := h i p hp
  exact ⟨x, hx, pw_cell_below k h1, pw_cell_below k h2⟩
theorem acells_cell {w : World} {x : Addr} {al : List (Int × Int)} (h : AR w (some x) al) : ∀ j u, (acells al)[j]? = some u → w.cell? (x.add j) = some u := by
  intro j u hu
  have hj : j < (acells al).length := (List.getElem?_eq_some_iff.1 hu).1
  rw [acells_length] at hj
  have hi : j / 2 < al.length := by omega
  obtain ⟨x', hx, h1, h2⟩ := h (j / 2) al[j / 2] (List.getElem?_eq_getElem hi)
  cases hx
  obtain ⟨g1, g2⟩ := acells_get (al := al) (i := j / 2) (List.getElem?_eq_getElem hi)
  rcases Nat.mod_two_eq_zero_or_one j with hm | hm
  · have e : j = j / 2 * 2 := by omega
    rw [← e] at g1 h1
    rw [hu] at g1
    rw [h1, g1]
  · have e : j = j / 2 * 2 + 1 := by omega
    rw [← e] at g2 h2
    rw [hu] at g2
    rw [h2, g2]
theorem acells_one (al : List (Int × Int)) : ∀ u ∈ acells al, u.oneCell' = true := by
  intro u hu
  simp only [acells, List.mem_flatMap] at hu
  obtain ⟨p, _, hp⟩ := hu
  simp at hp
  rcases hp with rfl | rfl <;> rfl

theorem clonea_calls (w : World) (A : Option Addr) (cl : Nat) (al : List (Int × Int)) (hA : AR w A al) (hn : A = none → al = [] ∧ cl = 0) (ll : al.length ≤ 256) : Calls Try.prog 75 #[.slice A al.length cl] w fun e w' => ∃ v, e = .returned v ∧ w'.ownsRow w.heap.size 145 2 v al.length (acells al) ∧ Below w.heap.size w w' := by
  cases A with
  | none =>
    obtain ⟨rfl, rfl⟩ := hn rfl
    exact (clonea_nil w).mono fun e w' ⟨he, d⟩ => ⟨_, he, World.ownsRow_nil _ _ _ _, d.below⟩
  | some x => exact clonea_some w x al.length cl (acells al) (acells_length al) (by omega) (acells_cell hA) (acells_one al)

section
variable {X : Nat → Prop} {C F : Nat} {av vo : Value} {al : List (Int × Int)} {came : Nat} {q : List Int} {over : Bool} {out : List Int}

theorem cloneb_owned (w : World) (v : Value) (q : List Int) (hq : q.length ≤ 65536) {base : Nat} (h : w.ownsRow base 5 1 v q.length (q.map (Value.int .u8))) : Calls Try.prog 71 #[v] w fun e w' => ∃ v', e = .returned v' ∧ w'.ownsRow w.heap.size 5 1 v' q.length (q.map (Value.int .u8)) ∧ Below w.heap.size w w' := by
  rcases h.2 with ⟨rfl, h0⟩ | ⟨g, cap, cur, rfl, _⟩
  · have hq0 : q = [] := List.eq_nil_of_length_eq_zero h0
    subst hq0
    exact (cloneb_nil w).mono fun e w' ⟨he, d⟩ => ⟨_, he, World.ownsRow_nil _ _ _ _, d.below⟩
  · exact cloneb_some w ⟨g, 0, none⟩ q.length cap _ (by simp) hq (h.cells rfl) (by intro u hu; obtain ⟨p, _, rfl⟩ := List.mem_map.1 hu; rfl)

set_option maxRecDepth 100000 in
theorem out_calls (w : World) (h : IsCon w X C F av vo al came q over out) (ho : out.length ≤ 65536) : Calls Try.prog 37 #[.pointer (some ⟨C, 0, none⟩)] w fun e w' => (∃ A c, e = .returned (.slice A out.length c) ∧ out.length ≤ c ∧ (Kd.int .u8).C w' A out.length out) ∧ Below w.heap.size w w' := by
  have c4 := h.c4
  have HC := Aside0.mk (cloneb_owned w vo out ho h.o)
  clear h
  go_enter Try.func37, Try.ntmps37
  go_wp2_with fail
  refine HC.out.mono ?_
  rintro e w1 ⟨v, rfl, o1, b1⟩
  obtain ⟨A, c, rfl, hc, hC⟩ := own_reads o1
  go_wp2_with fail
  go_ret
  exact ⟨⟨A, c, rfl, hc, hC⟩, b1⟩

/-- One more byte went out. -/
theorem IsCon.sent {w w1 : World} {v' : Value} {y : Int} (h : IsCon w X C F av vo al came q over out) (o : Obj) (ho : w1.ownsRow 0 5 1 v' (out.length + 1) ((out ++ [y]).map (Value.int .u8))) (hg : (w.alloc o).grownBy w1 vo.ownBlock) (hv : v'.ownBlock = vo.ownBlock ∨ v'.ownBlock = some (w.alloc o).heap.size) :
    IsCon (w1.setCell ⟨C, 4, none⟩ v') (fun k => X k ∨ (w.heap.size ≤ k ∧ k < w1.heap.size)) C F av v' al came q over (out ++ [y]) ∧ OnlyP X w (w1.setCell ⟨C, 4, none⟩ v') ∧ w1.frozen? ⟨C, 4, none⟩ = false ∧ w1.cell? ⟨C, 4, none⟩ = some vo := by
  have hs : w.heap.size ≤ w1.heap.size := by have := hg.size; simp at this; omega
  have hk : ∀ k, k < w.heap.size → vo.ownBlock ≠ some k → w1.heap[k]? = w.heap[k]? := fun k hk hn => (hg.block k (by simp; omega) (fun e => hn e.symm)).trans ((below_alloc (Below.refl w.heap.size w) o).block k hk)
  have h1C := (hk C (blk_lt h.c) h.oc).trans h.c
  have hset : ∀ k, k ≠ C → (w1.setCell ⟨C, 4, none⟩ v').heap[k]? = w1.heap[k]? := fun k hk => Below.heap_setCell _ _ _ _ hk
  have hoC : v'.ownBlock ≠ some C := owns_ne ho h1C (by decide)
  refine ⟨⟨blk_set h1C 4 v', ?_, ?_, ?_, .inl h.xc, .inl h.xf, fun g hg => .inl (h.xa g hg), ?_, ?_, h.wa, h.wq, h.ll, h.lc⟩, ?_, blk_frozen h1C 4, (blk_cell h1C 4).trans rfl⟩
  · obtain ⟨b, f, n, h1, h2, h3, hh, h4⟩ := h.f
    exact ⟨b, f, n, h1, h2, h3, ((hset F (Ne.symm h.cf)).trans (hk F (blk_lt hh) h.of)).trans hh, h4⟩
  · exact owns_move h.a fun g hg => (hset g (fun e => h.ac (e ▸ hg))).trans (hk g (h.a.lt g hg).2 (h.ao g hg))
  · rw [List.length_append]
    exact owns_move ho fun g hg => hset g (fun e => hoC (e ▸ hg))
  · intro g hgv
    rcases hv with hv | hv
    · exact .inl (h.xo g (hv ▸ hgv))
    · rw [hgv] at hv
      simp at hv
      refine .inr ⟨by omega, (ho.lt g hgv).2⟩
  · intro k hk'
    simp
    rcases hk' with hk' | hk'
    · exact Nat.lt_of_lt_of_le (h.xb k hk') hs
    · exact hk'.2
  · refine ⟨hg.os, hg.tape, hg.output, by simp; exact hs, fun k hk1 hk2 => ?_⟩
    exact (hset k (fun e => hk2 (e ▸ h.xc))).trans (hk k hk1 (fun e => hk2 (h.xo k e)))

end
end Go.Proofs.Ytfnbpmkbjbibkaa

namespace Go.Proofs.Ytfnbpmkbjbibkaa
open Go Go.RowKit Go.Proofs.YtfnbpmkbjbibkaaW.PrintWords Go.Proofs.Ytfnbpmkbjbibkaa.FifoPlain
set_option linter.unusedVariables false
set_option linter.unusedSimpArgs false

section
variable {X : Nat → Prop} {C F : Nat} {av vo : Value} {al : List (Int × Int)} {came : Nat} {q : List Int} {over : Bool} {out : List Int}

end
end Go.Proofs.Ytfnbpmkbjbibkaa

namespace Go.Proofs.Ytfnbpmkbjbibkaa
open Go Go.RowKit Go.Proofs.YtfnbpmkbjbibkaaW.PrintWords Go.Proofs.Ytfnbpmkbjbibkaa.FifoPlain
set_option linter.unusedVariables false
set_option linter.unusedSimpArgs false

/-- Arrivals in their order, up to place n. -/
def aord (al : List (Int × Int)) (n : Nat) : Prop := ∀ i p p', i + 1 < n → al[i]? = some p → al[i + 1]? = some p' → p.1 ≤ p'.1

set_option maxRecDepth 100000 in
theorem cnew_long (w : World) (A : Option Addr) (n cl : Nat) (hn : 256 < n) : Calls Try.prog 46 #[.slice A n cl] w fun e w' => e = .returned (.tuple #[.pointer none, .int .i64 3]) ∧ Drawn0 w w' := by
  have h : ((256 : Int) < (n : Int)) = True := by simp; omega
  go_enter Try.func46, Try.ntmps46
  go_wp2
  go_ret2
  exact ⟨rfl, Drawn0.refl _⟩

theorem drawn_on {a b : World} (h : Drawn0 a b) (n : Nat) : Drawn0 a (b.drewN n) := by
  obtain ⟨⟨m, rfl⟩⟩ := h
  exact ⟨⟨_, World.drewN_drewN _ _ _⟩⟩
theorem owns_form {w : World} {base : Nat} {e : TypeId} {size : Nat} {v : Value} {n : Nat} {xs : List Value} (h : w.ownsRow base e size v n xs) : ∃ A c, v = .slice A n c := by
  rcases h.2 with ⟨rfl, h0⟩ | ⟨g, cap, cur, rfl, _⟩
  · exact ⟨none, 0, by rw [h0]⟩
  · exact ⟨_, cap, rfl⟩
theorem newCon (w : World) (av : Value) (F : Nat) (base : Nat) (al : List (Int × Int)) (hf : IsF w F []) (ha : w.ownsRow base 145 2 av al.length (acells al)) (hb : base ≤ F) (wa : ∀ p ∈ al, (0 ≤ p.1 ∧ p.1 < 18446744073709551616) ∧ 0 ≤ p.2 ∧ p.2 < 256) (ll : al.length ≤ 256) : IsCon (w.alloc (.cells #[av, .int .i64 0, .pointer (some ⟨F, 0, none⟩), .bool false, .slice none 0 0] 140)) (fun k => base ≤ k ∧ k < w.heap.size + 1) w.heap.size F av (.slice none 0 0) al 0 [] false [] :=
  ⟨blk_new w _, hf.below (below_alloc (Below.refl _ _) _), con_zero_base (ha.alloc _) (Nat.zero_le _), World.ownsRow_nil _ _ _ _, ⟨by have := hf.lt; omega, by omega⟩, ⟨hb, by have := hf.lt; omega⟩, fun g hg => ⟨(ha.lt g hg).1, by have := (ha.lt g hg).2; omega⟩, fun g hg => (by cases hg), fun k hk => (by rw [World.size_alloc]; exact hk.2), wa, (by simp), ll, Nat.zero_le _⟩

set_option maxRecDepth 100000 in
set_option maxHeartbeats 2000000 in
theorem cnew_yes (w : World) (A : Option Addr) (cl : Nat) (al : List (Int × Int)) (hA : AR w A al) (hn : A = none → al = [] ∧ cl = 0) (wa : ∀ p ∈ al, (0 ≤ p.1 ∧ p.1 < 18446744073709551616) ∧ 0 ≤ p.2 ∧ p.2 < 256) (ll : al.length ≤ 256) (hs : aord al al.length) :
    Calls Try.prog 46 #[.slice A al.length cl] w fun e w' => ∃ C F av, e = .returned (.tuple #[.pointer (some ⟨C, 0, none⟩), .int .i64 0]) ∧ IsCon w' (fun k => w.heap.size ≤ k ∧ k < w'.heap.size) C F av (.slice none 0 0) al 0 [] false [] ∧ Below w.heap.size w w' := by
  have HA := Aside0.mk hA
  have HN := Aside0.mk hn
  have WA := Aside0.mk wa
  have HS := Aside0.mk hs
  clear hA hn wa hs
  obtain ⟨W0, hW0⟩ : ∃ W0, w = W0 := ⟨_, rfl⟩
  obtain ⟨n, hal⟩ : ∃ n, al.length = n := ⟨_, rfl⟩
  have HL := Aside0.mk hal
  rw [hal] at ll ⊢
  clear hal
  have hl : ((256 : Int) < (n : Int)) = False := by simp; omega
  have HD : Aside0 (Drawn0 W0 w) := ⟨hW0 ▸ Drawn0.refl _⟩
  have HA : Aside0 (AR W0 A al) := ⟨hW0 ▸ HA.out⟩
  rw [hW0]
  rw [hW0] at HD
  clear hW0
  go_enter Try.func46, Try.ntmps46
  go_wp2_with fail
  go_loopg [10] n (fun g i wr => ∃ k : Nat, g + k = n ∧ i = .int .i64 (k : Int) ∧ Aside0 (Drawn0 W0 wr))
  case atStart => exact ⟨0, rfl, rfl, HD⟩
  case round =>
    obtain ⟨k, hk, rfl, hd⟩ := hrel
    obtain ⟨wo, rfl⟩ : ∃ wo : World, wo = wr := ⟨_, rfl⟩
    by_cases hlt : k < n
    · have hlt' : ((k : Int) < (n : Int)) = True := by simp; omega
      cases k with
      | zero =>
        go_wp2_with fail
        go_quiet (fail)
        have D1 := Aside0.mk (drawn_on hd.out nq)
        go_wp2_with fail
        go_roundg (gk - 1)
        case measure => omega
        case rel => exact ⟨1, by omega, by congr 1, D1⟩
      | succ k =>
        have hk1 : k + 1 < al.length := by rw [HL.out]; exact hlt
        have hp := List.getElem?_eq_getElem hk1
        have hp' := List.getElem?_eq_getElem (show k < al.length by omega)
        obtain ⟨x, hx, r1, _⟩ := HA.out _ _ hp
        obtain ⟨x', hx', r2, _⟩ := HA.out _ _ hp'
        rw [hx] at hx'
        cases hx'
        subst hx
        have hle := HS.out k _ _ hk1 hp' hp
        generalize al[k + 1].1 = t1 at r1 hle
        generalize al[k].1 = t0 at r2 hle
        have hd1 : decide (t1 < t0) = false := decide_eq_false (by omega)
        have c1 : ∀ n, (wo.drewN n).cell? (x.add ((k + 1) * 2)) = some (.int .u64 t1) := fun n => pw_cell_below (drawn_on hd.out n).below r1
        have c0 : ∀ n, (wo.drewN n).cell? (x.add (k * 2)) = some (.int .u64 t0) := fun n => pw_cell_below (drawn_on hd.out n).below r2
        have q1 : wo.cell? (x.add ((k + 1) * 2)) = some (.int .u64 t1) := c1 0
        have q0 : wo.cell? (x.add (k * 2)) = some (.int .u64 t0) := c0 0
        clear hle hp hp' r1 r2
        have hg : decide ((0 : Int) < ((k + 1 : Nat) : Int)) = true := decide_eq_true (by omega)
        go_wp2_with fail
        go_quiet (fail)
        have D1 := Aside0.mk (drawn_on hd.out nq)
        go_wp2_with fail
        go_roundg (gk - 1)
        case measure => omega
        case rel => exact ⟨k + 2, by omega, by congr 1, D1⟩
    · obtain rfl : k = n := by omega
      have hlt' : ((k : Int) < (k : Int)) = False := by simp
      go_wp2_with fail
      have HC := clonea_calls wo A cl al (fun i p hp => (HA.out.below hd.out.below) i p hp) HN.out (by rw [HL.out]; exact ll)
      rw [HL.out] at HC
      have HC := Aside0.mk HC
      refine HC.out.mono ?_
      rintro e w1 ⟨v, rfl, o1, b1⟩
      obtain ⟨A1, c1, rfl⟩ := owns_form o1
      have O1 := Aside0.mk o1
      have B1 := Aside0.mk (below_on hd.out.below b1)
      have b2sz := Aside0.mk B1.out.size
      clear o1 b1 HC
      go_wp2_with fail
      refine (new_calls _).mono ?_
      rintro e w2 ⟨rfl, f2, b2⟩
      have F2 := Aside0.mk f2
      have O2 := Aside0.mk (owns_below O1.out b2)
      have B2 := Aside0.mk (below_on B1.out b2)
      clear f2 b2
      go_wp2_with fail
      go_ret2
      have o2 := O2.out
      have hl0 := HL.out
      have hb2 := B2.out
      have hsz := b2sz.out
      have hI := newCon w2 (.slice A1 k c1) w1.heap.size W0.heap.size al F2.out (by rw [hl0]; exact con_zero_base o2 hd.out.below.size) hsz WA.out (by rw [hl0]; exact ll)
      exact ⟨w2.heap.size, w1.heap.size, .slice A1 k c1, rfl, by simpa only [World.size_alloc] using hI, below_alloc B2.out _⟩
end Go.Proofs.Ytfnbpmkbjbibkaa

namespace Go.Proofs.Ytfnbpmkbjbibkaa
open Go Go.RowKit Go.Proofs.YtfnbpmkbjbibkaaW.PrintWords Go.Proofs.Ytfnbpmkbjbibkaa.FifoPlain
set_option linter.unusedVariables false
set_option linter.unusedSimpArgs false

/-- What comes up to a tick: how many came, what waits, was one lost? -/
def upL (t : Int) : List (Int × Int) → Nat × List Int × Bool → Nat × List Int × Bool
  | [], s => s
  | p :: r, (c, q, o) => if p.1 ≤ t then upL t r (c + 1, qpush q p.2, o || !decide (q.length < 16)) else (c, q, o)

theorem wf_push {q : List Int} {x : Int} (hq : ∀ y ∈ q, 0 ≤ y ∧ y < 256) (hx : 0 ≤ x ∧ x < 256) : ∀ y ∈ qpush q x, 0 ≤ y ∧ y < 256 := by
  intro y hy
  unfold qpush at hy
  split at hy
  · rcases List.mem_append.1 hy with h | h
    · exact hq y h
    · simp at h; subst h; exact hx
  · exact hq y hy
section
variable {X : Nat → Prop} {C F : Nat} {av vo : Value} {al : List (Int × Int)} {came : Nat} {q : List Int} {over : Bool} {out : List Int}
end
end Go.Proofs.Ytfnbpmkbjbibkaa

namespace Go.Proofs.Ytfnbpmkbjbibkaa
open Go Go.RowKit Go.Proofs.YtfnbpmkbjbibkaaW.PrintWords Go.Proofs.Ytfnbpmkbjbibkaa.FifoPlain
set_option linter.unusedVariables false
set_option linter.unusedSimpArgs false

/-- C is a console in w; all of its blocks (X) are later than W's; nothing of W's has changed. -/
def KC (W w : World) (X : Nat → Prop) (C : Nat) (al : List (Int × Int)) (came : Nat) (q : List Int) (over : Bool) (out : List Int) : Prop :=
  (∃ F av vo, IsCon w X C F av vo al came q over out) ∧ (∀ k, X k → W.heap.size ≤ k) ∧ Below W.heap.size W w
section
variable {W w : World} {X : Nat → Prop} {C : Nat} {al : List (Int × Int)} {came : Nat} {q : List Int} {over : Bool} {out : List Int}
theorem KC.bel (h : KC W w X C al came q over out) : Below W.heap.size W w := h.2.2
theorem KC.below {w' : World} (h : KC W w X C al came q over out) (k : Below w.heap.size w w') : KC W w' X C al came q over out := by
  obtain ⟨⟨F, av, vo, hi⟩, hX, hb⟩ := h
  exact ⟨⟨F, av, vo, hi.below k⟩, hX, below_on hb k⟩
theorem KC.drawn {w' : World} (h : KC W w X C al came q over out) (k : Drawn0 w w') : KC W w' X C al came q over out := h.below k.below
theorem KC.q256 (h : KC W w X C al came q over out) : ∀ x ∈ q, 0 ≤ x ∧ x < 256 := by
  obtain ⟨⟨F, av, vo, hi⟩, _⟩ := h
  exact hi.wq
theorem KC.q16 (h : KC W w X C al came q over out) : q.length ≤ 16 := by
  obtain ⟨⟨F, av, vo, hi⟩, _⟩ := h
  exact hi.f.length
theorem KC.lc (h : KC W w X C al came q over out) : came ≤ al.length := by
  obtain ⟨⟨F, av, vo, hi⟩, _⟩ := h
  exact hi.lc
theorem KC.xlt (h : KC W w X C al came q over out) : ∀ k, X k → k < w.heap.size := by
  obtain ⟨⟨F, av, vo, hi⟩, _⟩ := h
  exact hi.xb
theorem OnlyP.belowW {P : Nat → Prop} {W w w' : World} (h : OnlyP P w w') (hP : ∀ k, P k → W.heap.size ≤ k) (hb : Below W.heap.size W w) : Below W.heap.size W w' := h.below hP hb
/-- What is written elsewhere leaves a console as it is. -/
theorem KC.move {w' : World} {Y : Nat → Prop} (h : KC W w X C al came q over out) (k : OnlyP Y w w') (hd : ∀ i, X i → ¬ Y i) (hY : ∀ i, Y i → W.heap.size ≤ i) : KC W w' X C al came q over out := by
  obtain ⟨⟨F, av, vo, hi⟩, hX, hb⟩ := h
  have hm : ∀ i, X i → w'.heap[i]? = w.heap[i]? := fun i hx => k.block i (hi.xb i hx) (hd i hx)
  obtain ⟨b, f, n, h1, h2, h3, hh, h4⟩ := hi.f
  exact ⟨⟨F, av, vo, ⟨(hm C hi.xc).trans hi.c, ⟨b, f, n, h1, h2, h3, (hm F hi.xf).trans hh, h4⟩, owns_move hi.a (fun g hg => hm g (hi.xa g hg)), owns_move hi.o (fun g hg => hm g (hi.xo g hg)), hi.xc, hi.xf, hi.xa, hi.xo, fun i hx => Nat.lt_of_lt_of_le (hi.xb i hx) k.size, hi.wa, hi.wq, hi.ll, hi.lc⟩⟩, hX, k.below hY hb⟩

theorem kc_new (W w : World) (hW : Below W.heap.size W w) (A : Option Addr) (cl : Nat) (al : List (Int × Int)) (hA : AR w A al) (hn : A = none → al = [] ∧ cl = 0) (wa : ∀ p ∈ al, (0 ≤ p.1 ∧ p.1 < 18446744073709551616) ∧ 0 ≤ p.2 ∧ p.2 < 256) (ll : al.length ≤ 256) (hs : aord al al.length) :
    Calls Try.prog 46 #[.slice A al.length cl] w fun e w' => ∃ C X, e = .returned (.tuple #[.pointer (some ⟨C, 0, none⟩), .int .i64 0]) ∧ KC W w' X C al 0 [] false [] ∧ (∀ k, X k → w.heap.size ≤ k) ∧ Below w.heap.size w w' :=
  (cnew_yes w A cl al hA hn wa ll hs).mono fun e w' ⟨C, F, av, he, hi, hb⟩ => ⟨C, _, he, ⟨⟨F, av, _, hi⟩, fun k hk => by have := hW.size; have := hk.1; omega, below_on hW hb⟩, fun k hk => hk.1, hb⟩
theorem kc_came (h : KC W w X C al came q over out) : Calls Try.prog 39 #[.pointer (some ⟨C, 0, none⟩)] w fun e w' => e = .returned (.int .i64 (came : Int)) ∧ Drawn0 w w' := by
  obtain ⟨⟨F, av, vo, hi⟩, _⟩ := h
  exact came_calls w hi
theorem kc_over (h : KC W w X C al came q over out) : Calls Try.prog 38 #[.pointer (some ⟨C, 0, none⟩)] w fun e w' => e = .returned (.bool over) ∧ Drawn0 w w' := by
  obtain ⟨⟨F, av, vo, hi⟩, _⟩ := h
  exact over_calls w hi
theorem kc_ready (h : KC W w X C al came q over out) : Calls Try.prog 81 #[.pointer (some ⟨C, 0, none⟩)] w fun e w' => e = .returned (.bool (decide (0 < q.length))) ∧ Drawn0 w w' := by
  obtain ⟨⟨F, av, vo, hi⟩, _⟩ := h
  exact ready_calls w hi
theorem kc_waits (h : KC W w X C al came q over out) : Calls Try.prog 36 #[.pointer (some ⟨C, 0, none⟩)] w fun e w' => (∃ A c, e = .returned (.slice A q.length c) ∧ q.length ≤ c ∧ (Kd.int .u8).C w' A q.length q) ∧ Below w.heap.size w w' := by
  obtain ⟨⟨F, av, vo, hi⟩, _⟩ := h
  exact waits_calls w hi
theorem kc_out (h : KC W w X C al came q over out) (ho : out.length ≤ 65536) : Calls Try.prog 37 #[.pointer (some ⟨C, 0, none⟩)] w fun e w' => (∃ A c, e = .returned (.slice A out.length c) ∧ out.length ≤ c ∧ (Kd.int .u8).C w' A out.length out) ∧ Below w.heap.size w w' := by
  obtain ⟨⟨F, av, vo, hi⟩, _⟩ := h
  exact out_calls w hi ho
end

end Go.Proofs.Ytfnbpmkbjbibkaa
