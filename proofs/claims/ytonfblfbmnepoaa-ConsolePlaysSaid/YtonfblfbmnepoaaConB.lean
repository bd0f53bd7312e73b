/- The console: clones, New, data, status, send, heal. -/
import Derived.Test.YtonfblfbmnepoaaCon
import Derived.Laws.OwnMore
import Derived.Maps.AppendAt
import Derived.WalkSpells
import Derived.Lib.SliceRun
namespace Go.Proofs.Ytonfblfbmnepoaa
open Go Go.RowKit Go.Proofs.YtonfblfbmnepoaaW.PrintWords Go.Proofs.Ytonfblfbmnepoaa.FifoPlain
set_option linter.unusedVariables false
set_option linter.unusedSimpArgs false

theorem con_zero_base {w : World} {base b' : Nat} {e : TypeId} {size : Nat} {v : Value} {n : Nat} {xs : List Value} (h : w.ownsRow base e size v n xs) (hb : b' ≤ base) : w.ownsRow b' e size v n xs :=
  ⟨h.1, h.2.imp id (fun ⟨g, cap, cur, a, b, c⟩ => ⟨g, cap, cur, a, Nat.le_trans hb b, c⟩)⟩
theorem grown_below {w w' : World} {row : Option Nat} {base : Nat} (h : w.grownBy w' row) (hr : ∀ g, row = some g → base ≤ g) (hb : base ≤ w.heap.size) : Below base w w' :=
  (Below.refl base w).grown h hb hr

set_option maxRecDepth 100000 in
theorem cloneb_nil (w : World) : Calls Try.prog 64 #[.slice none 0 0] w fun e w' => e = .returned (.slice none 0 0) ∧ Drawn0 w w' := by
  have q22 : ∀ (w : World) (a : Option Addr) (n c n' c' : Nat), (binOp .eql 29 (.slice a n c) (.slice none n' c')).run Try.prog w = .ok (.bool a.isNone) w := fun w a n c n' c' => Lib.run_eql_slice_nil w _ _ a n c n' c' Try.underlying29
  go_enter Try.func64, Try.ntmps64
  go_wp2
  go_ret
  exact ⟨rfl, Drawn0.refl _⟩
set_option maxRecDepth 100000 in
set_option maxHeartbeats 1000000 in
theorem cloneb_some (w : World) (ad : Addr) (n c : Nat) (xs : List Value) (hx : xs.length = n) (hn : n ≤ 65536) (hc : ∀ j u, xs[j]? = some u → w.cell? (ad.add j) = some u) (h1 : ∀ u ∈ xs, u.oneCell' = true) : Calls Try.prog 64 #[.slice (some ad) n c] w fun e w' => ∃ v, e = .returned v ∧ w'.ownsRow w.heap.size 5 1 v n xs ∧ Below w.heap.size w w' := by
  obtain ⟨i0, hi, hz0, hz1, hz2⟩ := info_parts (show (Try.prog.info? 5).map (fun i => (i.zero, i.size, i.bytes)) = some (some (.int .u8 0), 1, 1) by kernel_rfl)
  have HC := Aside0.mk (fun o j u (hu : xs[j]? = some u) => pw_cell_below (below_alloc (Below.refl _ _) o) (hc j u hu))
  have hown0 : (w.alloc (.cells #[] 5)).ownsRow w.heap.size 5 1 (.slice (some ⟨w.heap.size, 0, none⟩) 0 0) 0 [] := by
    have := World.ownsRow_lit (base := w.heap.size) (e := 5) (size := 1) w #[] 0 (Nat.le_refl _) (by decide) rfl
    simpa using this
  have HO := Aside0.mk hown0
  have HB := Aside0.mk (below_alloc (Below.refl w.heap.size w) (.cells #[] 5))
  have HX := Aside0.mk hx
  have H1 := Aside0.mk h1
  clear hc hown0 hx h1
  have q22 : ∀ (w : World) (a : Option Addr) (n c n' c' : Nat), (binOp .eql 29 (.slice a n c) (.slice none n' c')).run Try.prog w = .ok (.bool a.isNone) w := fun w a n c n' c' => Lib.run_eql_slice_nil w _ _ a n c n' c' Try.underlying29
  go_enter Try.func64, Try.ntmps64
  go_wp2_with (at_builtin; refine wpList_append_own _ rfl (.tmp 5) (.tmp 6) 29 rfl w.heap.size 5 i0 (.int .u8 0) 1 1 Try.underlying29 hi hz0 hz1 hz2 rfl (by decide) _ 0 [] rfl HO.out ad n c xs rfl ?h1 ?h2 H1.out ?h3 ?h4 ?h5 ?_; (case h1 => rw [HX.out, Nat.mul_one]); (case h2 => exact HC.out _); (case h3 => simp only [maxLen]; omega); (case h4 => omega); (case h5 => simp); intro v1 w1 hown1 hgrow1 _; simp only [Nat.zero_add, List.nil_append] at hown1; have hb1 := Aside0.mk (HB.out.grown hgrow1 HB.out.size (fun k hk => (HO.out.lt k hk).1)); have HO1 := Aside0.mk hown1; clear hown1 hgrow1)
  go_ret
  exact ⟨v1, rfl, HO1.out, hb1.out⟩

set_option maxRecDepth 100000 in
theorem clonea_nil (w : World) : Calls Try.prog 52 #[.slice none 0 0] w fun e w' => e = .returned (.slice none 0 0) ∧ Drawn0 w w' := by
  have q22 : ∀ (w : World) (a : Option Addr) (n c n' c' : Nat), (binOp .eql 58 (.slice a n c) (.slice none n' c')).run Try.prog w = .ok (.bool a.isNone) w := fun w a n c n' c' => Lib.run_eql_slice_nil w _ _ a n c n' c' Try.underlying58
  go_enter Try.func52, Try.ntmps52
  go_wp2
  go_ret
  exact ⟨rfl, Drawn0.refl _⟩
set_option maxRecDepth 100000 in
set_option maxHeartbeats 1000000 in
theorem clonea_some (w : World) (ad : Addr) (n c : Nat) (xs : List Value) (hx : xs.length = n * 2) (hn : n ≤ 65536) (hc : ∀ j u, xs[j]? = some u → w.cell? (ad.add j) = some u) (h1 : ∀ u ∈ xs, u.oneCell' = true) : Calls Try.prog 52 #[.slice (some ad) n c] w fun e w' => ∃ v, e = .returned v ∧ w'.ownsRow w.heap.size 61 2 v n xs ∧ Below w.heap.size w w' := by
  obtain ⟨i0, hi, hz0, hz1, hz2⟩ := info_parts (show (Try.prog.info? 61).map (fun i => (i.zero, i.size, i.bytes)) = some (some (.agg #[.int .u64 0, .int .u8 0]), 2, 16) by kernel_rfl)
  have HC := Aside0.mk (fun o j u (hu : xs[j]? = some u) => pw_cell_below (below_alloc (Below.refl _ _) o) (hc j u hu))
  have hown0 : (w.alloc (.cells #[] 61)).ownsRow w.heap.size 61 2 (.slice (some ⟨w.heap.size, 0, none⟩) 0 0) 0 [] := by
    have := World.ownsRow_lit (base := w.heap.size) (e := 61) (size := 2) w #[] 0 (Nat.le_refl _) (by decide) rfl
    simpa using this
  have HO := Aside0.mk hown0
  have HB := Aside0.mk (below_alloc (Below.refl w.heap.size w) (.cells #[] 61))
  have HX := Aside0.mk hx
  have H1 := Aside0.mk h1
  clear hc hown0 hx h1
  have q22 : ∀ (w : World) (a : Option Addr) (n c n' c' : Nat), (binOp .eql 58 (.slice a n c) (.slice none n' c')).run Try.prog w = .ok (.bool a.isNone) w := fun w a n c n' c' => Lib.run_eql_slice_nil w _ _ a n c n' c' Try.underlying58
  go_enter Try.func52, Try.ntmps52
  go_wp2_with (at_builtin; refine wpList_append_own _ rfl (.tmp 5) (.tmp 6) 58 rfl w.heap.size 61 i0 (.agg #[.int .u64 0, .int .u8 0]) 2 16 Try.underlying58 hi hz0 hz1 hz2 rfl (by decide) _ 0 [] rfl HO.out ad n c xs rfl ?h1 ?h2 H1.out ?h3 ?h4 ?h5 ?_; (case h1 => exact HX.out); (case h2 => exact HC.out _); (case h3 => simp only [maxLen]; omega); (case h4 => omega); (case h5 => simp); intro v1 w1 hown1 hgrow1 _; simp only [Nat.zero_add, List.nil_append] at hown1; have hb1 := Aside0.mk (HB.out.grown hgrow1 HB.out.size (fun k hk => (HO.out.lt k hk).1)); have HO1 := Aside0.mk hown1; clear hown1 hgrow1)
  go_ret
  exact ⟨v1, rfl, HO1.out, hb1.out⟩

section
variable {X : Nat → Prop} {C F : Nat} {av vo : Value} {al : List (Int × Int)} {came : Nat} {q : List Int} {over : Bool} {out : List Int}

set_option maxRecDepth 100000 in
theorem data_calls (w : World) (h : IsCon w X C F av vo al came q over out) : Calls Try.prog 56 #[.pointer (some ⟨C, 0, none⟩)] w fun e w' => e = .returned (.int .u32 (q.headD 0)) ∧ IsCon w' X C F av vo al came q.tail over out ∧ Only F w w' := by
  have c2 := h.c2
  have H := Aside0.mk h
  have hq : 0 ≤ q.headD 0 ∧ q.headD 0 < 4294967296 := by
    cases q with
    | nil => simp
    | cons x q => have := h.wq x (by simp); simp; omega
  have HP := pop_calls w _ _ h.f
  obtain ⟨x, hx⟩ : ∃ x, q.headD 0 = x := ⟨_, rfl⟩
  rw [hx] at HP hq ⊢
  have HP := Aside0.mk HP
  clear h hx
  go_enter Try.func56, Try.ntmps56
  go_wp2_with fail
  refine HP.out.mono ?_
  rintro e w1 ⟨rfl, f1, o1⟩
  have H1 := Aside0.mk (H.out.setF f1 o1 (fun x hx => H.out.wq x (List.mem_of_mem_tail hx)))
  have O1 := Aside0.mk o1
  clear f1 o1
  go_wp2_with fail
  go_ret
  exact ⟨by simp, H1.out, O1.out⟩
set_option maxRecDepth 100000 in
theorem status_calls (w : World) (h : IsCon w X C F av vo al came q over out) : Calls Try.prog 57 #[.pointer (some ⟨C, 0, none⟩)] w fun e w' => e = .returned (.int .u32 ((if 0 < q.length then 1 else 0) + (if over then 2 else 0))) ∧ Drawn0 w w' := by
  have H := Aside0.mk h
  have c3 : ∀ {w'}, Drawn0 w w' → w'.cell? ⟨C, 3, none⟩ = some (.bool over) := fun d => (h.drawn d).c3
  have C3 := Aside0.mk (@c3)
  clear h c3
  obtain ⟨b, hb⟩ : ∃ b, decide (0 < q.length) = b := ⟨_, rfl⟩
  have hR := (ready_calls _ H.out).mono (fun e w' => (id : _ → (e = .returned (.bool (decide (0 < q.length))) ∧ Drawn0 w w')))
  rw [hb] at hR
  have hq : (if 0 < q.length then (1 : Int) else 0) = if b then 1 else 0 := by
    rw [← hb]; by_cases h : 0 < q.length <;> simp [h]
  rw [hq]
  have HR := Aside0.mk hR
  clear hR hq hb H
  go_enter Try.func57, Try.ntmps57
  go_wp2_with fail
  refine HR.out.mono ?_
  rintro e w1 ⟨rfl, d1⟩
  have c3 := C3.out d1
  cases b <;> cases over <;> (
    go_wp2_with fail
    go_ret
    refine ⟨?_, d1⟩
    first | rfl | decide)
set_option maxRecDepth 100000 in
theorem heal_calls (w : World) (x : Int) (h : IsCon w X C F av vo al came q over out) : Calls Try.prog 63 #[.pointer (some ⟨C, 0, none⟩), .int .u32 x] w fun e w' => e = .returned (.tuple #[]) ∧ IsCon w' X C F av vo al came q false out ∧ Only C w w' := by
  have H := Aside0.mk (h.setOver false)
  have O := Aside0.mk ((Only.refl C w).setCell 3 (.bool false))
  have c3 := h.c3
  have z3 : w.frozen? ⟨C, 3, none⟩ = false := blk_frozen h.c _
  clear h
  go_enter Try.func63, Try.ntmps63
  go_wp2
  go_end0
  exact ⟨rfl, H.out, O.out⟩
end
end Go.Proofs.Ytonfblfbmnepoaa
