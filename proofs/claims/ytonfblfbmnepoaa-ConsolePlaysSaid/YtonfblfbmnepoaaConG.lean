/- The console, made since W: its methods by contract; its statements' 'awake'. -/
import Derived.Test.YtonfblfbmnepoaaConF
namespace Go.Proofs.Ytonfblfbmnepoaa
open Go Go.RowKit Go.Proofs.YtonfblfbmnepoaaW.PrintWords Go.Proofs.Ytonfblfbmnepoaa.FifoPlain
set_option linter.unusedVariables false
set_option linter.unusedSimpArgs false

/-- C is a console in w; all of its blocks (X) are later than W's; nothing of W's has changed. -/
def KC (W w : World) (X : Nat → Prop) (C : Nat) (al : List (Int × Int)) (came : Nat) (q : List Int) (over : Bool) (out : List Int) : Prop :=
  (∃ F av vo, IsCon w X C F av vo al came q over out) ∧ (∀ k, X k → W.heap.size ≤ k) ∧ Below W.heap.size W w
section
variable {W w : World} {X : Nat → Prop} {C : Nat} {al : List (Int × Int)} {came : Nat} {q : List Int} {over : Bool} {out : List Int}
theorem KC.bel (h : KC W w X C al came q over out) : Below W.heap.size W w := h.2.2
theorem KC.below {w' : World} (h : KC W w X C al came q over out) (k : Below w.heap.size w w') : KC W w' X C al came q over out := by
  obtain ⟨⟨F, av, vo, hi⟩, hX, hb⟩ := h
  exact ⟨⟨F, av, vo, hi.below k⟩, hX, below_on hb k⟩
theorem KC.drawn {w' : World} (h : KC W w X C al came q over out) (k : Drawn0 w w') : KC W w' X C al came q over out := h.below k.below
theorem KC.q256 (h : KC W w X C al came q over out) : ∀ x ∈ q, 0 ≤ x ∧ x < 256 := by
  obtain ⟨⟨F, av, vo, hi⟩, _⟩ := h
  exact hi.wq
theorem KC.q16 (h : KC W w X C al came q over out) : q.length ≤ 16 := by
  obtain ⟨⟨F, av, vo, hi⟩, _⟩ := h
  exact hi.f.length
theorem KC.lc (h : KC W w X C al came q over out) : came ≤ al.length := by
  obtain ⟨⟨F, av, vo, hi⟩, _⟩ := h
  exact hi.lc
theorem KC.xlt (h : KC W w X C al came q over out) : ∀ k, X k → k < w.heap.size := by
  obtain ⟨⟨F, av, vo, hi⟩, _⟩ := h
  exact hi.xb
theorem OnlyP.belowW {P : Nat → Prop} {W w w' : World} (h : OnlyP P w w') (hP : ∀ k, P k → W.heap.size ≤ k) (hb : Below W.heap.size W w) : Below W.heap.size W w' := h.below hP hb
/-- What is written elsewhere leaves a console as it is. -/
theorem KC.move {w' : World} {Y : Nat → Prop} (h : KC W w X C al came q over out) (k : OnlyP Y w w') (hd : ∀ i, X i → ¬ Y i) (hY : ∀ i, Y i → W.heap.size ≤ i) : KC W w' X C al came q over out := by
  obtain ⟨⟨F, av, vo, hi⟩, hX, hb⟩ := h
  have hm : ∀ i, X i → w'.heap[i]? = w.heap[i]? := fun i hx => k.block i (hi.xb i hx) (hd i hx)
  obtain ⟨b, f, n, h1, h2, h3, hh, h4⟩ := hi.f
  exact ⟨⟨F, av, vo, ⟨(hm C hi.xc).trans hi.c, ⟨b, f, n, h1, h2, h3, (hm F hi.xf).trans hh, h4⟩, owns_move hi.a (fun g hg => hm g (hi.xa g hg)), owns_move hi.o (fun g hg => hm g (hi.xo g hg)), hi.xc, hi.xf, hi.xa, hi.xo, fun i hx => Nat.lt_of_lt_of_le (hi.xb i hx) k.size, hi.wa, hi.wq, hi.ll, hi.lc⟩⟩, hX, k.below hY hb⟩

theorem kc_new (W w : World) (hW : Below W.heap.size W w) (A : Option Addr) (cl : Nat) (al : List (Int × Int)) (hA : AR w A al) (hn : A = none → al = [] ∧ cl = 0) (wa : ∀ p ∈ al, (0 ≤ p.1 ∧ p.1 < 18446744073709551616) ∧ 0 ≤ p.2 ∧ p.2 < 256) (ll : al.length ≤ 256) (hs : aord al al.length) :
    Calls Try.prog 31 #[.slice A al.length cl] w fun e w' => ∃ C X, e = .returned (.tuple #[.pointer (some ⟨C, 0, none⟩), .int .i64 0]) ∧ KC W w' X C al 0 [] false [] ∧ (∀ k, X k → w.heap.size ≤ k) ∧ Below w.heap.size w w' :=
  (cnew_yes w A cl al hA hn wa ll hs).mono fun e w' ⟨C, F, av, he, hi, hb⟩ => ⟨C, _, he, ⟨⟨F, av, _, hi⟩, fun k hk => by have := hW.size; have := hk.1; omega, below_on hW hb⟩, fun k hk => hk.1, hb⟩
theorem kc_up (t : Int) (t0 : 0 ≤ t) (t1 : t < 18446744073709551616) (h : KC W w X C al came q over out) :
    Calls Try.prog 32 #[.pointer (some ⟨C, 0, none⟩), .int .u64 t] w fun e w' => e = .returned (.tuple #[]) ∧ KC W w' X C al (upL t (al.drop came) (came, q, over)).1 (upL t (al.drop came) (came, q, over)).2.1 (upL t (al.drop came) (came, q, over)).2.2 out ∧ OnlyP X w w' := by
  obtain ⟨⟨F, av, vo, hi⟩, hX, hb⟩ := h
  exact (up_calls w t t0 t1 hi).mono fun e w' ⟨he, h1, ho⟩ => ⟨he, ⟨⟨F, av, vo, h1⟩, hX, ho.below hX hb⟩, ho⟩
theorem kc_read0 (h : KC W w X C al came q over out) : Calls Try.prog 34 #[.pointer (some ⟨C, 0, none⟩), .int .i64 0] w fun e w' => e = .returned (.tuple #[.int .u32 (q.headD 0), .int .i64 0]) ∧ KC W w' X C al came q.tail over out ∧ OnlyP X w w' := by
  obtain ⟨⟨F, av, vo, hi⟩, hX, hb⟩ := h
  exact (read0_calls w hi).mono fun e w' ⟨he, h1, ho⟩ => ⟨he, ⟨⟨F, av, vo, h1⟩, hX, (OnlyP.of_only ho hi.xf).below hX hb⟩, .of_only ho hi.xf⟩
theorem kc_read4 (h : KC W w X C al came q over out) : Calls Try.prog 34 #[.pointer (some ⟨C, 0, none⟩), .int .i64 4] w fun e w' => e = .returned (.tuple #[.int .u32 ((if 0 < q.length then 1 else 0) + (if over then 2 else 0)), .int .i64 0]) ∧ Drawn0 w w' := by
  obtain ⟨⟨F, av, vo, hi⟩, hX, hb⟩ := h
  exact read4_calls w hi
theorem kc_write0 (x : Int) (h : KC W w X C al came q over out) (x0 : 0 ≤ x) (x1 : x < 4294967296) (ho : out.length ≤ 65536) : Calls Try.prog 41 #[.pointer (some ⟨C, 0, none⟩), .int .i64 0, .int .u32 x] w fun e w' => e = .returned (.int .i64 0) ∧ (∃ X', KC W w' X' C al came q over (out ++ [x % 256]) ∧ (∀ k, X k → X' k) ∧ (∀ k, X' k → X k ∨ w.heap.size ≤ k)) ∧ OnlyP X w w' := by
  obtain ⟨⟨F, av, vo, hi⟩, hX, hb⟩ := h
  exact (write0_calls w x hi x0 x1 ho).mono fun e w' ⟨he, ⟨X', vo', h1, h2, h3⟩, ho⟩ => ⟨he, ⟨X', ⟨⟨F, av, vo', h3⟩, fun k hk => (by rcases h2 k hk with h | h; exact hX k h; have := hb.size; omega), ho.below hX hb⟩, h1, h2⟩, ho⟩
theorem kc_write4 (x : Int) (h : KC W w X C al came q over out) : Calls Try.prog 41 #[.pointer (some ⟨C, 0, none⟩), .int .i64 4, .int .u32 x] w fun e w' => e = .returned (.int .i64 0) ∧ KC W w' X C al came q false out ∧ OnlyP X w w' := by
  obtain ⟨⟨F, av, vo, hi⟩, hX, hb⟩ := h
  exact (write4_calls w x hi).mono fun e w' ⟨he, h1, ho⟩ => ⟨he, ⟨⟨F, av, vo, h1⟩, hX, (OnlyP.of_only ho hi.xc).below hX hb⟩, .of_only ho hi.xc⟩
theorem kc_came (h : KC W w X C al came q over out) : Calls Try.prog 38 #[.pointer (some ⟨C, 0, none⟩)] w fun e w' => e = .returned (.int .i64 (came : Int)) ∧ Drawn0 w w' := by
  obtain ⟨⟨F, av, vo, hi⟩, _⟩ := h
  exact came_calls w hi
theorem kc_over (h : KC W w X C al came q over out) : Calls Try.prog 36 #[.pointer (some ⟨C, 0, none⟩)] w fun e w' => e = .returned (.bool over) ∧ Drawn0 w w' := by
  obtain ⟨⟨F, av, vo, hi⟩, _⟩ := h
  exact over_calls w hi
theorem kc_ready (h : KC W w X C al came q over out) : Calls Try.prog 33 #[.pointer (some ⟨C, 0, none⟩)] w fun e w' => e = .returned (.bool (decide (0 < q.length))) ∧ Drawn0 w w' := by
  obtain ⟨⟨F, av, vo, hi⟩, _⟩ := h
  exact ready_calls w hi
theorem kc_waits (h : KC W w X C al came q over out) : Calls Try.prog 37 #[.pointer (some ⟨C, 0, none⟩)] w fun e w' => (∃ A c, e = .returned (.slice A q.length c) ∧ q.length ≤ c ∧ (Kd.int .u8).C w' A q.length q) ∧ Below w.heap.size w w' := by
  obtain ⟨⟨F, av, vo, hi⟩, _⟩ := h
  exact waits_calls w hi
theorem kc_out (h : KC W w X C al came q over out) (ho : out.length ≤ 65536) : Calls Try.prog 42 #[.pointer (some ⟨C, 0, none⟩)] w fun e w' => (∃ A c, e = .returned (.slice A out.length c) ∧ out.length ≤ c ∧ (Kd.int .u8).C w' A out.length out) ∧ Below w.heap.size w w' := by
  obtain ⟨⟨F, av, vo, hi⟩, _⟩ := h
  exact out_calls w hi ho
theorem kc_next (h : KC W w X C al came q over out) : Calls Try.prog 35 #[.pointer (some ⟨C, 0, none⟩)] w fun e w' => e = .returned (.tuple #[.int .u64 (al.getD came (0, 0)).1, .bool (decide (came < al.length))]) ∧ Drawn0 w w' := by
  obtain ⟨⟨F, av, vo, hi⟩, _⟩ := h
  by_cases hc : came < al.length
  · have hp := List.getElem?_eq_getElem hc
    have := next_yes w hi hp
    rwa [decide_eq_true hc, List.getD_eq_getElem?_getD, hp]
  · have e : came = al.length := by have := hi.lc; omega
    have := next_no w hi e
    rwa [decide_eq_false hc, List.getD_eq_getElem?_getD, List.getElem?_eq_none (by omega)]
end

set_option maxRecDepth 100000 in
set_option maxHeartbeats 1000000 in
theorem con_awake_calls (W : World) : Calls Try.prog 30 #[] W fun e w' => e = .returned (.bool true) ∧ Below W.heap.size W w' := by
  have hlit : AR (W.alloc (.cells #[.int .u64 3, .int .u8 97] 61)) (some ⟨W.heap.size, 0, none⟩) [(3, 97)] := by
    intro i p hp
    have hi : i = 0 := by
      have := (List.getElem?_eq_some_iff.1 hp).1
      simp at this; exact this
    subst hi
    simp at hp
    subst hp
    exact ⟨_, rfl, (blk_cell (blk_new W _) 0).trans rfl, (blk_cell (blk_new W _) 1).trans rfl⟩
  have HN := Aside0.mk (kc_new W _ (below_alloc (Below.refl _ W) _) (some ⟨W.heap.size, 0, none⟩) 1 [(3, 97)] hlit (by simp) (by simp) (by simp) (by intro i p p' h; simp at h))
  clear hlit
  go_enter Try.func30, Try.ntmps30
  go_wp2_with fail
  refine HN.out.mono ?_
  rintro e w1 ⟨C, X, rfl, k1, _, _⟩
  have K1 := Aside0.mk k1
  clear k1 HN
  go_wp2_with fail
  refine (kc_up 2 (by omega) (by omega) K1.out).mono ?_
  rintro e w2 ⟨rfl, k2, _⟩
  have K2 : Aside0 (KC W w2 X C [(3, 97)] 0 [] false []) := ⟨by simpa [upL] using k2⟩
  clear k2 K1
  go_wp2_with fail
  refine (kc_ready K2.out).mono ?_
  rintro e w3 ⟨rfl, d3⟩
  have K3 := Aside0.mk (K2.out.drawn d3)
  clear d3 K2
  go_wp2_with fail
  refine (kc_up 3 (by omega) (by omega) K3.out).mono ?_
  rintro e w4 ⟨rfl, k4, _⟩
  have K4 : Aside0 (KC W w4 X C [(3, 97)] 1 [97] false []) := ⟨by simpa [upL, qpush] using k4⟩
  clear k4 K3
  go_wp2_with fail
  refine (kc_ready K4.out).mono ?_
  rintro e w5 ⟨rfl, d5⟩
  have K5 := Aside0.mk (K4.out.drawn d5)
  clear d5 K4
  go_wp2_with fail
  refine (kc_read0 K5.out).mono ?_
  rintro e w6 ⟨rfl, k6, _⟩
  have K6 := Aside0.mk k6.bel
  clear k6 K5
  go_wp2_with fail
  go_ret
  exact ⟨by simp, K6.out⟩
end Go.Proofs.Ytonfblfbmnepoaa
