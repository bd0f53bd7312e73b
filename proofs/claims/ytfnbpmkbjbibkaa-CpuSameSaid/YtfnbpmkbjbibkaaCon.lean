/- The console: what it holds; what can be asked, by contract. -/
import Derived.Test.YtfnbpmkbjbibkaaFifoAny
import Derived.Test.YtfnbpmkbjbibkaaRamE
import Derived.BigQuiet
namespace Go.Proofs.Ytfnbpmkbjbibkaa
open Go Go.RowKit Go.Proofs.YtfnbpmkbjbibkaaW.PrintWords Go.Proofs.Ytfnbpmkbjbibkaa.FifoPlain
set_option linter.unusedVariables false
set_option linter.unusedSimpArgs false

/-- The cells of arrivals: tick, byte. -/
def acells (al : List (Int × Int)) : List Value := al.flatMap fun p => [.int .u64 p.1, .int .u8 p.2]
theorem acells_length (al : List (Int × Int)) : (acells al).length = al.length * 2 := by
  induction al with
  | nil => rfl
  | cons p al ih => simp only [acells, List.flatMap_cons, List.length_append, List.length_cons, List.length_nil] at ih ⊢; omega
theorem acells_get : ∀ {al : List (Int × Int)} {i : Nat} {p : Int × Int}, al[i]? = some p → (acells al)[i * 2]? = some (.int .u64 p.1) ∧ (acells al)[i * 2 + 1]? = some (.int .u8 p.2)
  | [], i, p, h => by simp at h
  | p' :: al, 0, p, h => by
    simp at h; subst h
    exact ⟨rfl, rfl⟩
  | p' :: al, i + 1, p, h => by
    have ih := acells_get (al := al) (i := i) (p := p) (by simpa using h)
    have e : acells (p' :: al) = [.int .u64 p'.1, .int .u8 p'.2] ++ acells al := rfl
    rw [e, show (i + 1) * 2 = 2 + i * 2 by omega, Nat.add_assoc]
    constructor
    · rw [List.getElem?_append_right (by simp)]; simpa using ih.1
    · rw [List.getElem?_append_right (by simp)]; simpa [show 2 + (i * 2 + 1) - 2 = i * 2 + 1 by omega] using ih.2

/-- Block C of the world is a console: what comes lies in av, what waits in the queue F, what went out in vo; X holds of all of its blocks. -/
structure IsCon (w : World) (X : Nat → Prop) (C F : Nat) (av vo : Value) (al : List (Int × Int)) (came : Nat) (q : List Int) (over : Bool) (out : List Int) : Prop where
  c : w.heap[C]? = some (.cells #[av, .int .i64 (came : Int), .pointer (some ⟨F, 0, none⟩), .bool over, vo] 140 (0, 0))
  f : IsF w F q
  a : w.ownsRow 0 145 2 av al.length (acells al)
  o : w.ownsRow 0 5 1 vo out.length (out.map (Value.int .u8))
  xc : X C
  xf : X F
  xa : ∀ g, av.ownBlock = some g → X g
  xo : ∀ g, vo.ownBlock = some g → X g
  xb : ∀ k, X k → k < w.heap.size
  wa : ∀ p ∈ al, (0 ≤ p.1 ∧ p.1 < 18446744073709551616) ∧ 0 ≤ p.2 ∧ p.2 < 256
  wq : ∀ x ∈ q, 0 ≤ x ∧ x < 256
  ll : al.length ≤ 256
  lc : came ≤ al.length
section
variable {w w' : World} {X : Nat → Prop} {C F : Nat} {av vo : Value} {al : List (Int × Int)} {came : Nat} {q : List Int} {over : Bool} {out : List Int}
theorem grown_of_below {w w' : World} (h : Below w.heap.size w w') : w.grownBy w' none := ⟨h.os, h.tape, h.output, h.size, fun k hk _ => h.block k hk⟩
theorem owns_below {w w' : World} {base : Nat} {e : TypeId} {size : Nat} {v : Value} {n : Nat} {xs : List Value} (h : w.ownsRow base e size v n xs) (k : Below w.heap.size w w') : w'.ownsRow base e size v n xs :=
  h.kept (grown_of_below k) (by cases hv : v.ownBlock <;> simp)
theorem owns_move {w w' : World} {base : Nat} {e : TypeId} {size : Nat} {v : Value} {n : Nat} {xs : List Value} (h : w.ownsRow base e size v n xs) (k : ∀ g, v.ownBlock = some g → w'.heap[g]? = w.heap[g]?) : w'.ownsRow base e size v n xs := by
  refine ⟨h.1, ?_⟩
  rcases h.2 with hn | ⟨g, cap, cur, rfl, hb, hgg, rest⟩
  · exact .inl hn
  · exact .inr ⟨g, cap, cur, rfl, hb, (k g rfl).trans hgg, rest⟩
theorem IsCon.below (h : IsCon w X C F av vo al came q over out) (k : Below w.heap.size w w') : IsCon w' X C F av vo al came q over out :=
  ⟨blk_below h.c k, h.f.below k, owns_below h.a k, owns_below h.o k, h.xc, h.xf, h.xa, h.xo, fun i hi => Nat.lt_of_lt_of_le (h.xb i hi) k.size, h.wa, h.wq, h.ll, h.lc⟩
theorem IsCon.drawn (h : IsCon w X C F av vo al came q over out) (k : Drawn0 w w') : IsCon w' X C F av vo al came q over out := h.below k.below
theorem IsCon.drewN (n : Nat) (h : IsCon w X C F av vo al came q over out) : IsCon (w.drewN n) X C F av vo al came q over out := h.drawn ⟨⟨n, rfl⟩⟩
theorem IsCon.c0 (h : IsCon w X C F av vo al came q over out) : w.cell? ⟨C, 0, none⟩ = some av := (blk_cell h.c 0).trans rfl
theorem IsCon.c1 (h : IsCon w X C F av vo al came q over out) : w.cell? ⟨C, 1, none⟩ = some (.int .i64 (came : Int)) := (blk_cell h.c 1).trans rfl
theorem IsCon.c2 (h : IsCon w X C F av vo al came q over out) : w.cell? ⟨C, 2, none⟩ = some (.pointer (some ⟨F, 0, none⟩)) := (blk_cell h.c 2).trans rfl
theorem IsCon.c3 (h : IsCon w X C F av vo al came q over out) : w.cell? ⟨C, 3, none⟩ = some (.bool over) := (blk_cell h.c 3).trans rfl
theorem IsCon.c4 (h : IsCon w X C F av vo al came q over out) : w.cell? ⟨C, 4, none⟩ = some vo := (blk_cell h.c 4).trans rfl
theorem owns_ne {w : World} {base B : Nat} {e t : TypeId} {size : Nat} {v : Value} {n : Nat} {xs : List Value} {cs : Array Value} {fr : Nat × Nat} (h : w.ownsRow base e size v n xs) (hb : w.heap[B]? = some (.cells cs t fr)) (hn : e ≠ t) : v.ownBlock ≠ some B := by
  intro he
  rcases h.2 with ⟨rfl, _⟩ | ⟨g, cap, cur, rfl, _, hg, _⟩
  · cases he
  · cases he
    rw [hg] at hb
    simp at hb
    exact hn hb.2.1
theorem IsCon.cf (h : IsCon w X C F av vo al came q over out) : C ≠ F := by
  rintro rfl
  obtain ⟨b, f, n, _, _, _, hh, _⟩ := h.f
  have := h.c
  rw [hh] at this
  simp at this
theorem IsCon.ac (h : IsCon w X C F av vo al came q over out) : av.ownBlock ≠ some C := owns_ne h.a h.c (by decide)
theorem IsCon.oc (h : IsCon w X C F av vo al came q over out) : vo.ownBlock ≠ some C := owns_ne h.o h.c (by decide)
theorem IsCon.af (h : IsCon w X C F av vo al came q over out) : av.ownBlock ≠ some F := by
  obtain ⟨b, f, n, _, _, _, hh, _⟩ := h.f
  exact owns_ne h.a hh (by decide)
theorem IsCon.of (h : IsCon w X C F av vo al came q over out) : vo.ownBlock ≠ some F := by
  obtain ⟨b, f, n, _, _, _, hh, _⟩ := h.f
  exact owns_ne h.o hh (by decide)
theorem IsCon.ao (h : IsCon w X C F av vo al came q over out) (g : Nat) (ha : av.ownBlock = some g) : vo.ownBlock ≠ some g := by
  rcases h.a.2 with ⟨rfl, _⟩ | ⟨g', cap, cur, rfl, _, hg, _⟩
  · cases ha
  · cases ha
    exact owns_ne h.o hg (by decide)
theorem IsCon.arr (h : IsCon w X C F av vo al came q over out) {i : Nat} {p : Int × Int} (hp : al[i]? = some p) : ∃ g cl, av = .slice (some ⟨g, 0, none⟩) al.length cl ∧ w.cell? ⟨g, i * 2, none⟩ = some (.int .u64 p.1) ∧ w.cell? ⟨g, i * 2 + 1, none⟩ = some (.int .u8 p.2) := by
  have hi : i < al.length := (List.getElem?_eq_some_iff.1 hp).1
  have ha := h.a
  rcases ha.2 with ⟨_, h0⟩ | ⟨g, cap, cur, rfl, _⟩
  · omega
  · refine ⟨g, cap, rfl, ?_, ?_⟩
    · rw [ha.cellAt _ (by omega)]; exact (acells_get hp).1
    · rw [ha.cellAt _ (by omega)]; exact (acells_get hp).2
theorem IsCon.av_eq (h : IsCon w X C F av vo al came q over out) : ∃ A cl, av = .slice A al.length cl ∧ al.length ≤ cl := by
  rcases h.a.2 with ⟨rfl, h0⟩ | ⟨g, cap, cur, rfl, _, _, hn, _⟩
  · exact ⟨none, 0, by rw [h0], by omega⟩
  · exact ⟨_, cap, rfl, hn⟩
/-- The queue is another one: what was written is its own block. -/
theorem IsCon.setF (h : IsCon w X C F av vo al came q over out) {q' : List Int} (hf : IsF w' F q') (k : Only F w w') (hw : ∀ x ∈ q', 0 ≤ x ∧ x < 256) : IsCon w' X C F av vo al came q' over out :=
  ⟨blk_only h.c k h.cf, hf, owns_move h.a (fun g hg => k.block g (h.a.lt g hg).2 (fun e => h.af (e ▸ hg))), owns_move h.o (fun g hg => k.block g (h.o.lt g hg).2 (fun e => h.of (e ▸ hg))), h.xc, h.xf, h.xa, h.xo, fun i hi => Nat.lt_of_lt_of_le (h.xb i hi) k.size, h.wa, hw, h.ll, h.lc⟩
theorem IsCon.onC (h : IsCon w X C F av vo al came q over out) {came' : Nat} {over' : Bool} (hc : w'.heap[C]? = some (.cells #[av, .int .i64 (came' : Int), .pointer (some ⟨F, 0, none⟩), .bool over', vo] 140 (0, 0))) (k : Only C w w') (hl : came' ≤ al.length) : IsCon w' X C F av vo al came' q over' out :=
  ⟨hc, h.f.only k (Ne.symm h.cf), owns_move h.a (fun g hg => k.block g (h.a.lt g hg).2 (fun e => h.ac (e ▸ hg))), owns_move h.o (fun g hg => k.block g (h.o.lt g hg).2 (fun e => h.oc (e ▸ hg))), h.xc, h.xf, h.xa, h.xo, fun i hi => Nat.lt_of_lt_of_le (h.xb i hi) k.size, h.wa, h.wq, h.ll, hl⟩
theorem IsCon.setCame (h : IsCon w X C F av vo al came q over out) (c : Nat) (hl : c ≤ al.length) : IsCon (w.setCell ⟨C, 1, none⟩ (.int .i64 (c : Int))) X C F av vo al c q over out :=
  h.onC (blk_set h.c 1 _) ((Only.refl C w).setCell 1 _) hl
theorem IsCon.setOver (h : IsCon w X C F av vo al came q over out) (b : Bool) : IsCon (w.setCell ⟨C, 3, none⟩ (.bool b)) X C F av vo al came q b out :=
  h.onC (blk_set h.c 3 _) ((Only.refl C w).setCell 3 _) h.lc
end

set_option maxRecDepth 100000 in
theorem came_calls (w : World) {X : Nat → Prop} {C F : Nat} {av vo : Value} {al : List (Int × Int)} {came : Nat} {q : List Int} {over : Bool} {out : List Int} (h : IsCon w X C F av vo al came q over out) : Calls Try.prog 39 #[.pointer (some ⟨C, 0, none⟩)] w fun e w' => e = .returned (.int .i64 (came : Int)) ∧ Drawn0 w w' := by
  have c1 := h.c1
  clear h
  go_enter Try.func39, Try.ntmps39
  go_wp2
  go_ret
  exact ⟨rfl, Drawn0.refl _⟩
set_option maxRecDepth 100000 in
theorem over_calls (w : World) {X : Nat → Prop} {C F : Nat} {av vo : Value} {al : List (Int × Int)} {came : Nat} {q : List Int} {over : Bool} {out : List Int} (h : IsCon w X C F av vo al came q over out) : Calls Try.prog 38 #[.pointer (some ⟨C, 0, none⟩)] w fun e w' => e = .returned (.bool over) ∧ Drawn0 w w' := by
  have c1 := h.c3
  clear h
  go_enter Try.func38, Try.ntmps38
  go_wp2
  go_ret
  exact ⟨rfl, Drawn0.refl _⟩
set_option maxRecDepth 100000 in
theorem ready_calls (w : World) {X : Nat → Prop} {C F : Nat} {av vo : Value} {al : List (Int × Int)} {came : Nat} {q : List Int} {over : Bool} {out : List Int} (h : IsCon w X C F av vo al came q over out) : Calls Try.prog 81 #[.pointer (some ⟨C, 0, none⟩)] w fun e w' => e = .returned (.bool (decide (0 < q.length))) ∧ Drawn0 w w' := by
  have c2 := h.c2
  have HF := Aside0.mk h.f
  clear h
  go_enter Try.func81, Try.ntmps81
  go_wp2_with fail
  refine (flen_calls _ _ _ HF.out).mono ?_
  rintro e w1 ⟨rfl, d1⟩
  go_wp2_with fail
  go_ret
  exact ⟨by simp, d1⟩
set_option maxRecDepth 100000 in
theorem waits_calls (w : World) {X : Nat → Prop} {C F : Nat} {av vo : Value} {al : List (Int × Int)} {came : Nat} {q : List Int} {over : Bool} {out : List Int} (h : IsCon w X C F av vo al came q over out) : Calls Try.prog 36 #[.pointer (some ⟨C, 0, none⟩)] w fun e w' => (∃ A c, e = .returned (.slice A q.length c) ∧ q.length ≤ c ∧ (Kd.int .u8).C w' A q.length q) ∧ Below w.heap.size w w' := by
  have c2 := h.c2
  have HF := Aside0.mk h.f
  clear h
  go_enter Try.func36, Try.ntmps36
  go_wp2_with fail
  refine (all_calls _ _ _ HF.out).mono ?_
  rintro e w1 ⟨⟨A, c, rfl, hc, hC⟩, b1⟩
  go_wp2_with fail
  go_ret
  exact ⟨⟨A, c, rfl, hc, hC⟩, b1⟩
set_option maxRecDepth 100000 in
theorem con_came_nil (w : World) : Calls Try.prog 39 #[.pointer none] w fun e w' => e = .returned (.int .i64 0) ∧ Drawn0 w w' := by
  go_enter Try.func39, Try.ntmps39
  go_wp2
  go_ret
  exact ⟨rfl, Drawn0.refl _⟩
set_option maxRecDepth 100000 in
theorem con_over_nil (w : World) : Calls Try.prog 38 #[.pointer none] w fun e w' => e = .returned (.bool false) ∧ Drawn0 w w' := by
  go_enter Try.func38, Try.ntmps38
  go_wp2
  go_ret
  exact ⟨rfl, Drawn0.refl _⟩
set_option maxRecDepth 100000 in
theorem con_ready_nil (w : World) : Calls Try.prog 81 #[.pointer none] w fun e w' => e = .returned (.bool false) ∧ Drawn0 w w' := by
  go_enter Try.func81, Try.ntmps81
  go_wp2
  go_ret
  exact ⟨rfl, Drawn0.refl _⟩
set_option maxRecDepth 100000 in
theorem con_waits_nil (w : World) : Calls Try.prog 36 #[.pointer none] w fun e w' => e = .returned (.slice none 0 0) ∧ Drawn0 w w' := by
  go_enter Try.func36, Try.ntmps36
  go_wp2
  go_ret
  exact ⟨rfl, Drawn0.refl _⟩
set_option maxRecDepth 100000 in
theorem con_out_nil (w : World) : Calls Try.prog 37 #[.pointer none] w fun e w' => e = .returned (.slice none 0 0) ∧ Drawn0 w w' := by
  go_enter Try.func37, Try.ntmps37
  go_wp2
  go_ret
  exact ⟨rfl, Drawn0.refl _⟩
end Go.Proofs.Ytfnbpmkbjbibkaa
