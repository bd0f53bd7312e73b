/- A list of events, owned; cloned; read. (PK=PCpuNils) -/
import Derived.Test.YtfnbpmkbjbibkaaCpuEv
namespace Go.Proofs.Ytfnbpmkbjbibkaa
open Go Go.RowKit Go.Deep Go.Great Go.Proofs.YtfnbpmkbjbibkaaW.PrintWords Go.Proofs.Ytfnbpmkbjbibkaa.PCpuNils
set_option linter.unusedVariables false
set_option linter.unusedSimpArgs false

def zE : List Value := .int .i64 0 :: .int .u64 0 :: List.replicate 43 (.int .u32 0)
theorem infoE : (Try.prog.info? 46).map (fun i => (i.zero, i.size, i.bytes)) = some (some (.agg zE.toArray), 45, 192) := by kernel_rfl
theorem flat_len : ∀ (evs : List (List Value)), (∀ e ∈ evs, Fits kE e) → evs.flatten.length = evs.length * 45
  | [], _ => rfl
  | e :: evs, h => by
    have := flat_len evs (fun x hx => h x (List.mem_cons_of_mem _ hx))
    have h1 := (h e (List.mem_cons_self ..)).len45
    simp [this, h1]
    omega
theorem flat_get : ∀ (evs : List (List Value)), (∀ e ∈ evs, Fits kE e) → ∀ (i : Nat) e, evs[i]? = some e → ∀ j v, e[j]? = some v → evs.flatten[i * 45 + j]? = some v
  | [], _, i, e, h, _, _, _ => by cases h
  | e :: evs, hf, 0, x, h, j, v, hj => by
    obtain rfl := Option.some.inj h
    rw [Nat.zero_mul, Nat.zero_add, List.flatten_cons, List.getElem?_append_left (List.getElem?_eq_some_iff.1 hj).1, hj]
  | e :: evs, hf, i + 1, x, h, j, v, hj => by
    have h1 := (hf e (List.mem_cons_self ..)).len45
    rw [List.flatten_cons, List.getElem?_append_right (by omega), h1, show (i + 1) * 45 + j - 45 = i * 45 + j by omega]
    exact flat_get evs (fun x hx => hf x (List.mem_cons_of_mem _ hx)) i x h j v hj
theorem flat_one {evs : List (List Value)} (h : ∀ e ∈ evs, Fits kE e) : ∀ u ∈ evs.flatten, u.oneCell' = true := by
  intro u hu
  obtain ⟨e, he, hu⟩ := List.mem_flatten.1 hu
  exact (h e he).one u hu
/-- An owned list of events. -/
structure EO (base : Nat) (w : World) (v : Value) (evs : List (List Value)) : Prop where
  o : w.ownsRow base 46 45 v evs.length evs.flatten
  f : ∀ e ∈ evs, Fits kE e
theorem EO.below {base : Nat} {w w' : World} {v : Value} {evs : List (List Value)} (h : EO base w v evs) (k : Below w.heap.size w w') : EO base w' v evs := ⟨owns_below h.o k, h.f⟩
theorem EO.only {base : Nat} {w w' : World} {v : Value} {evs : List (List Value)} {B t : Nat} {cs : Array Value} {fr : Nat × Nat} (h : EO base w v evs) (ho : Only B w w') (hB : w.heap[B]? = some (.cells cs t fr)) (hn : t ≠ 46) : EO base w' v evs :=
  ⟨owns_move h.o fun i hi => ho.block i (by
    rcases h.o.2 with ⟨rfl, _⟩ | ⟨g', cap, cur, rfl, hg', hh, _⟩
    · cases hi
    · obtain rfl : g' = i := by simpa [Value.ownBlock] using hi
      exact blk_lt hh) (fun e => owns_ne h.o hB (Ne.symm hn) (e ▸ hi)), h.f⟩
theorem EO.wide {base base' : Nat} {w : World} {v : Value} {evs : List (List Value)} (h : EO base w v evs) (hb : base' ≤ base) : EO base' w v evs := ⟨con_zero_base h.o hb, h.f⟩
theorem st_eo {base : Nat} {v : Value} {evs : List (List Value)} : St (fun w => EO base w v evs) :=
  ⟨fun w w' q d => q.below d, fun w w' g cs q hg ho => q.only ho hg (by decide)⟩
theorem EO.nil (base : Nat) (w : World) : EO base w (.slice none 0 0) [] := ⟨World.ownsRow_nil _ _ _ _, fun e h => by cases h⟩
theorem EO.es {base : Nat} {w : World} {v : Value} {evs : List (List Value)} (h : EO base w v evs) : ∃ A c, v = .slice A evs.length c ∧ evs.length ≤ c ∧ (A = none → evs = [] ∧ c = 0) ∧ ES w A evs := by
  rcases h.o.2 with ⟨rfl, h0⟩ | ⟨g, cap, cur, rfl, _, _, hc, _⟩
  · have hq0 : evs = [] := List.eq_nil_of_length_eq_zero h0
    subst hq0
    exact ⟨none, 0, rfl, Nat.le_refl _, fun _ => ⟨rfl, rfl⟩, ES.nil _ _⟩
  · refine ⟨some ⟨g, 0, none⟩, cap, rfl, hc, (fun e => by cases e), fun i e hi => ⟨h.f e (List.mem_of_getElem? hi), _, rfl, fun j v hj => ?_⟩⟩
    exact h.o.cells rfl _ _ (flat_get evs h.f i e hi j v hj)

set_option maxRecDepth 100000 in
theorem clonee_nil (w : World) : Calls Try.prog 34 #[.slice none 0 0] w fun e w' => e = .returned (.slice none 0 0) ∧ Drawn0 w w' := by
  have q22 : ∀ (w : World) (a : Option Addr) (n c n' c' : Nat), (binOp .eql 33 (.slice a n c) (.slice none n' c')).run Try.prog w = .ok (.bool a.isNone) w := fun w a n c n' c' => Lib.run_eql_slice_nil w _ _ a n c n' c' Try.underlying33
  go_enter Try.func34, Try.ntmps34
  go_wp2
  go_ret
  exact ⟨rfl, Drawn0.refl _⟩
set_option maxRecDepth 100000 in
set_option maxHeartbeats 1000000 in
theorem clonee_some (w : World) (ad : Addr) (n c : Nat) (xs : List Value) (hx : xs.length = n * 45) (hn : n ≤ 65536) (hc : ∀ j u, xs[j]? = some u → w.cell? (ad.add j) = some u) (h1 : ∀ u ∈ xs, u.oneCell' = true) : Calls Try.prog 34 #[.slice (some ad) n c] w fun e w' => ∃ v, e = .returned v ∧ w'.ownsRow w.heap.size 46 45 v n xs ∧ Below w.heap.size w w' := by
  obtain ⟨i0, hi, hz0, hz1, hz2⟩ := info_parts infoE
  have HC := Aside0.mk (fun o j u (hu : xs[j]? = some u) => pw_cell_below (below_alloc (Below.refl _ _) o) (hc j u hu))
  have hown0 : (w.alloc (.cells #[] 46)).ownsRow w.heap.size 46 45 (.slice (some ⟨w.heap.size, 0, none⟩) 0 0) 0 [] := by
    have := World.ownsRow_lit (base := w.heap.size) (e := 46) (size := 45) w #[] 0 (Nat.le_refl _) (by decide) rfl
    simpa using this
  have HO := Aside0.mk hown0
  have HB := Aside0.mk (below_alloc (Below.refl w.heap.size w) (.cells #[] 46))
  have HX := Aside0.mk hx
  have H1 := Aside0.mk h1
  clear hc hown0 hx h1
  have q22 : ∀ (w : World) (a : Option Addr) (n c n' c' : Nat), (binOp .eql 33 (.slice a n c) (.slice none n' c')).run Try.prog w = .ok (.bool a.isNone) w := fun w a n c n' c' => Lib.run_eql_slice_nil w _ _ a n c n' c' Try.underlying33
  go_enter Try.func34, Try.ntmps34
  go_wp2_with (at_builtin; refine wpList_append_own _ rfl (.tmp 5) (.tmp 6) 33 rfl w.heap.size 46 i0 (.agg zE.toArray) 45 192 Try.underlying33 hi hz0 hz1 hz2 rfl (by decide) _ 0 [] rfl HO.out ad n c xs rfl ?h1 ?h2 H1.out ?h3 ?h4 ?h5 ?_; (case h1 => exact HX.out); (case h2 => exact HC.out _); (case h3 => simp only [maxLen]; omega); (case h4 => omega); (case h5 => simp); intro v1 w1 hown1 hgrow1 _; simp only [Nat.zero_add, List.nil_append] at hown1; have hb1 := Aside0.mk (HB.out.grown hgrow1 HB.out.size (fun k hk => (HO.out.lt k hk).1)); have HO1 := Aside0.mk hown1; clear hown1 hgrow1)
  go_ret
  exact ⟨v1, rfl, HO1.out, hb1.out⟩
/-- Owned events, cloned. -/
theorem clonee_owned {w : World} {base : Nat} {v : Value} {evs : List (List Value)} (h : EO base w v evs) (hq : evs.length ≤ 65536) : Calls Try.prog 34 #[v] w fun e w' => ∃ A m c, e = .returned (.slice A m c) ∧ EO w.heap.size w' (.slice A m c) evs ∧ Below w.heap.size w w' := by
  rcases h.o.2 with ⟨rfl, h0⟩ | ⟨g, cap, cur, rfl, _⟩
  · have hq0 : evs = [] := List.eq_nil_of_length_eq_zero h0
    subst hq0
    exact (clonee_nil w).mono fun e w' ⟨he, d⟩ => ⟨none, 0, 0, he, EO.nil _ _, d.below⟩
  · refine (clonee_some w ⟨g, 0, none⟩ evs.length cap evs.flatten (flat_len evs h.f) hq (h.o.cells rfl) (flat_one h.f)).mono fun e w' ⟨v, he, ho, d⟩ => ?_
    obtain ⟨A, c, rfl⟩ := owns_form ho
    exact ⟨A, _, c, he, ⟨ho, h.f⟩, d⟩
/-- A machine's state, its events owned. -/
theorem cstate_ev {W w : World} {p : Nat} {pc : Int} {rg fl : List Value} {tk rt : Int} {ev : Value} {B R C T BB BW BG n k : Nat} {X : Nat → Prop} {l : List Int} {ws : List Bool} {gs : List Int} {al : List (Int × Int)} {came : Nat} {q : List Int} {over : Bool} {out : List Int} {o m : Int} {s off : Bool} {code : Int} (h : MC W w p pc rg fl tk rt ev B R C T BB BW BG n k X l ws gs al came q over out o m s off code) {base : Nat} {evs : List (List Value)} (he : EO base w ev evs) (hle : evs.length ≤ 65536) (hn0 : 0 < n) (hout : out.length ≤ 65536) :
    Calls Try.prog 10 #[.pointer (some ⟨p, 0, none⟩)] w fun e w' => ∃ vr vx vo ve, e = .returned (.agg (cH pc rg fl tk rt (sL vr vx vo over came o m s off code ve)).toArray) ∧
      w'.ownsRow w.heap.size 5 1 vr n (l.map (Value.int .u8)) ∧ w'.ownsRow w.heap.size 5 1 vx q.length (q.map (Value.int .u8)) ∧ w'.ownsRow w.heap.size 5 1 vo out.length (out.map (Value.int .u8)) ∧ EO w.heap.size w' ve evs ∧ Below w.heap.size w w' :=
  (cstate_ok h (fun v w' => EO w.heap.size w' v evs) (fun v => st_eo) (fun w' hb => (clonee_owned (he.below hb) hle).mono fun e w2 ⟨A, m, c, h1, h2, h3⟩ => ⟨A, m, c, h1, h2.wide hb.size, h3⟩) hn0 hout).mono fun e w' ⟨vr, vx, vo, ve, h1, h2, h3, h4, h5, _, h6⟩ => ⟨vr, vx, vo, ve, h1, h2, h3, h4, h5, h6⟩
end Go.Proofs.Ytfnbpmkbjbibkaa
