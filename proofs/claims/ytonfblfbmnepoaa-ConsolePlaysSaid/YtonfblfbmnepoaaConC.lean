/- The console: New, Out, send. -/
import Derived.Test.YtonfblfbmnepoaaConB
import Derived.Deep.LoopGhost
namespace Go.Proofs.Ytonfblfbmnepoaa
open Go Go.RowKit Go.Proofs.YtonfblfbmnepoaaW.PrintWords Go.Proofs.Ytonfblfbmnepoaa.FifoPlain
set_option linter.unusedVariables false
set_option linter.unusedSimpArgs false

/-- The row at A reads as these arrivals. -/
def AR (w : World) (A : Option Addr) (al : List (Int × Int)) : Prop := ∀ i p, al[i]? = some p → ∃ x, A = some x ∧ w.cell? (x.add (i * 2)) = some (.int .u64 p.1) ∧ w.cell? (x.add (i * 2 + 1)) = some (.int .u8 p.2)
theorem AR.below {w w' : World} {A : Option Addr} {al : List (Int × Int)} (h : AR w A al) (k : Below w.heap.size w w') : AR w' A al := fun i p hp => by
  obtain ⟨x, hx, h1, h2⟩ := h i p hp
  exact ⟨x, hx, pw_cell_below k h1, pw_cell_below k h2⟩
theorem acells_cell {w : World} {x : Addr} {al : List (Int × Int)} (h : AR w (some x) al) : ∀ j u, (acells al)[j]? = some u → w.cell? (x.add j) = some u := by
  intro j u hu
  have hj : j < (acells al).length := (List.getElem?_eq_some_iff.1 hu).1
  rw [acells_length] at hj
  have hi : j / 2 < al.length := by omega
  obtain ⟨x', hx, h1, h2⟩ := h (j / 2) al[j / 2] (List.getElem?_eq_getElem hi)
  cases hx
  obtain ⟨g1, g2⟩ := acells_get (al := al) (i := j / 2) (List.getElem?_eq_getElem hi)
  rcases Nat.mod_two_eq_zero_or_one j with hm | hm
  · have e : j = j / 2 * 2 := by omega
    rw [← e] at g1 h1
    rw [hu] at g1
    rw [h1, g1]
  · have e : j = j / 2 * 2 + 1 := by omega
    rw [← e] at g2 h2
    rw [hu] at g2
    rw [h2, g2]
theorem acells_one (al : List (Int × Int)) : ∀ u ∈ acells al, u.oneCell' = true := by
  intro u hu
  simp only [acells, List.mem_flatMap] at hu
  obtain ⟨p, _, hp⟩ := hu
  simp at hp
  rcases hp with rfl | rfl <;> rfl

theorem clonea_calls (w : World) (A : Option Addr) (cl : Nat) (al : List (Int × Int)) (hA : AR w A al) (hn : A = none → al = [] ∧ cl = 0) (ll : al.length ≤ 256) : Calls Try.prog 52 #[.slice A al.length cl] w fun e w' => ∃ v, e = .returned v ∧ w'.ownsRow w.heap.size 61 2 v al.length (acells al) ∧ Below w.heap.size w w' := by
  cases A with
  | none =>
    obtain ⟨rfl, rfl⟩ := hn rfl
    exact (clonea_nil w).mono fun e w' ⟨he, d⟩ => ⟨_, he, World.ownsRow_nil _ _ _ _, d.below⟩
  | some x => exact clonea_some w x al.length cl (acells al) (acells_length al) (by omega) (acells_cell hA) (acells_one al)

section
variable {X : Nat → Prop} {C F : Nat} {av vo : Value} {al : List (Int × Int)} {came : Nat} {q : List Int} {over : Bool} {out : List Int}

theorem cloneb_owned (w : World) (v : Value) (q : List Int) (hq : q.length ≤ 65536) {base : Nat} (h : w.ownsRow base 5 1 v q.length (q.map (Value.int .u8))) : Calls Try.prog 64 #[v] w fun e w' => ∃ v', e = .returned v' ∧ w'.ownsRow w.heap.size 5 1 v' q.length (q.map (Value.int .u8)) ∧ Below w.heap.size w w' := by
  rcases h.2 with ⟨rfl, h0⟩ | ⟨g, cap, cur, rfl, _⟩
  · have hq0 : q = [] := List.eq_nil_of_length_eq_zero h0
    subst hq0
    exact (cloneb_nil w).mono fun e w' ⟨he, d⟩ => ⟨_, he, World.ownsRow_nil _ _ _ _, d.below⟩
  · exact cloneb_some w ⟨g, 0, none⟩ q.length cap _ (by simp) hq (h.cells rfl) (by intro u hu; obtain ⟨p, _, rfl⟩ := List.mem_map.1 hu; rfl)

set_option maxRecDepth 100000 in
theorem out_calls (w : World) (h : IsCon w X C F av vo al came q over out) (ho : out.length ≤ 65536) : Calls Try.prog 42 #[.pointer (some ⟨C, 0, none⟩)] w fun e w' => (∃ A c, e = .returned (.slice A out.length c) ∧ out.length ≤ c ∧ (Kd.int .u8).C w' A out.length out) ∧ Below w.heap.size w w' := by
  have c4 := h.c4
  have HC := Aside0.mk (cloneb_owned w vo out ho h.o)
  clear h
  go_enter Try.func42, Try.ntmps42
  go_wp2_with fail
  refine HC.out.mono ?_
  rintro e w1 ⟨v, rfl, o1, b1⟩
  obtain ⟨A, c, rfl, hc, hC⟩ := own_reads o1
  go_wp2_with fail
  go_ret
  exact ⟨⟨A, c, rfl, hc, hC⟩, b1⟩

/-- One more byte went out. -/
theorem IsCon.sent {w w1 : World} {v' : Value} {y : Int} (h : IsCon w X C F av vo al came q over out) (o : Obj) (ho : w1.ownsRow 0 5 1 v' (out.length + 1) ((out ++ [y]).map (Value.int .u8))) (hg : (w.alloc o).grownBy w1 vo.ownBlock) (hv : v'.ownBlock = vo.ownBlock ∨ v'.ownBlock = some (w.alloc o).heap.size) :
    IsCon (w1.setCell ⟨C, 4, none⟩ v') (fun k => X k ∨ (w.heap.size ≤ k ∧ k < w1.heap.size)) C F av v' al came q over (out ++ [y]) ∧ OnlyP X w (w1.setCell ⟨C, 4, none⟩ v') ∧ w1.frozen? ⟨C, 4, none⟩ = false ∧ w1.cell? ⟨C, 4, none⟩ = some vo := by
  have hs : w.heap.size ≤ w1.heap.size := by have := hg.size; simp at this; omega
  have hk : ∀ k, k < w.heap.size → vo.ownBlock ≠ some k → w1.heap[k]? = w.heap[k]? := fun k hk hn => (hg.block k (by simp; omega) (fun e => hn e.symm)).trans (heap_alloc_old w o hk)
  have h1C := (hk C (blk_lt h.c) h.oc).trans h.c
  have hset : ∀ k, k ≠ C → (w1.setCell ⟨C, 4, none⟩ v').heap[k]? = w1.heap[k]? := fun k hk => Below.heap_setCell _ _ _ _ hk
  have hoC : v'.ownBlock ≠ some C := owns_ne ho h1C (by decide)
  refine ⟨⟨blk_set h1C 4 v', ?_, ?_, ?_, .inl h.xc, .inl h.xf, fun g hg => .inl (h.xa g hg), ?_, ?_, h.wa, h.wq, h.ll, h.lc⟩, ?_, blk_frozen h1C 4, (blk_cell h1C 4).trans rfl⟩
  · obtain ⟨b, f, n, h1, h2, h3, hh, h4⟩ := h.f
    exact ⟨b, f, n, h1, h2, h3, ((hset F (Ne.symm h.cf)).trans (hk F (blk_lt hh) h.of)).trans hh, h4⟩
  · exact owns_move h.a fun g hg => (hset g (fun e => h.ac (e ▸ hg))).trans (hk g (h.a.lt g hg).2 (h.ao g hg))
  · rw [List.length_append]
    exact owns_move ho fun g hg => hset g (fun e => hoC (e ▸ hg))
  · intro g hgv
    rcases hv with hv | hv
    · exact .inl (h.xo g (hv ▸ hgv))
    · rw [hgv] at hv
      simp at hv
      refine .inr ⟨by omega, (ho.lt g hgv).2⟩
  · intro k hk'
    simp
    rcases hk' with hk' | hk'
    · exact Nat.lt_of_lt_of_le (h.xb k hk') hs
    · exact hk'.2
  · refine ⟨hg.os, hg.tape, hg.output, by simp; exact hs, fun k hk1 hk2 => ?_⟩
    exact (hset k (fun e => hk2 (e ▸ h.xc))).trans (hk k hk1 (fun e => hk2 (h.xo k e)))

set_option maxRecDepth 100000 in
set_option maxHeartbeats 1000000 in
theorem send_calls (w : World) (x : Int) (h : IsCon w X C F av vo al came q over out) (x0 : 0 ≤ x) (x1 : x < 4294967296) (ho : out.length ≤ 65536) : Calls Try.prog 62 #[.pointer (some ⟨C, 0, none⟩), .int .u32 x] w fun e w' => e = .returned (.tuple #[]) ∧ (∃ X' vo', (∀ k, X k → X' k) ∧ (∀ k, X' k → X k ∨ w.heap.size ≤ k) ∧ IsCon w' X' C F av vo' al came q over (out ++ [x % 256])) ∧ OnlyP X w w' := by
  obtain ⟨i0, hi, hz0, hz1, hz2⟩ := info_parts (show (Try.prog.info? 5).map (fun i => (i.zero, i.size, i.bytes)) = some (some (.int .u8 0), 1, 1) by kernel_rfl)
  have c4 := h.c4
  have H := Aside0.mk h
  obtain ⟨y, hy⟩ : ∃ y, x % 256 = y := ⟨_, rfl⟩
  have hw : IntKind.u8.wrap x = y := by rw [← hy]; simp [IntKind.wrap, IntKind.bits, IntKind.signed]
  rw [hy]
  clear h hy
  go_enter Try.func62, Try.ntmps62
  go_wp2_with (at_builtin; go_loud (refine wpList_append_own_at _ rfl (.tmp 8) (.tmp 11) 29 rfl 0 5 i0 (.int .u8 0) 1 1 Try.underlying29 hi hz0 hz1 hz2 rfl (by decide) _ out.length (out.map (Value.int .u8)) rfl (H.out.o.alloc _) ⟨w.heap.size, 0, none⟩ 1 1 [.int .u8 y] rfl rfl (cell_one_new _ _ _) (by simp [Value.oneCell']) (by simp only [maxLen]; omega) (by omega) (by simp) ?_; intro v1 w1 hown1 hgrow1 _ hblk1; obtain ⟨g1, cap1, rfl⟩ := ownsRow_succ hown1; have HS := Aside0.mk (H.out.sent _ (by simpa using hown1) hgrow1 hblk1); have zC : w1.frozen? ⟨C, 4, none⟩ = false := HS.out.2.2.1; have cC : w1.cell? ⟨C, 4, none⟩ = some vo := HS.out.2.2.2; clear hown1 hgrow1 hblk1))
  go_end0
  exact ⟨rfl, ⟨_, _, fun k hk => .inl hk, fun k hk => hk.imp id (·.1), HS.out.1⟩, HS.out.2.1⟩
end
end Go.Proofs.Ytonfblfbmnepoaa
