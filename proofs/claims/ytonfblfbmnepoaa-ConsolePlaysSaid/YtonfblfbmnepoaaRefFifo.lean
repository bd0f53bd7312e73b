/- The statements' own queue: Push and Pop on rows that are read. -/
import Derived.Test.YtonfblfbmnepoaaOnly
import Derived.Test.YtonfblfbmnepoaaProg
import Derived.WalkKit
import Derived.RegionTactic
import Derived.Deep.QuietTactic
import Derived.BigQuiet
import Derived.OwnWalk
import Derived.Laws.AppendOwn
import Derived.Laws.AppendOwnNone
import Derived.Laws.OwnMore
import Derived.Maps.AppendAt
namespace Go.Proofs.Ytonfblfbmnepoaa
open Go Go.RowKit Go.Proofs.YtonfblfbmnepoaaW.PrintWords
set_option linter.unusedVariables false
set_option linter.unusedSimpArgs false

/-- The slice of A, so long, with capacity c, reads as the bytes q; it lies in no block that X holds of. -/
def VR (w : World) (X : Nat → Prop) (A : Option Addr) (c : Nat) (q : List Int) : Prop :=
  (A = none ∧ c = 0 ∧ q = []) ∨ ∃ ad, A = some ad ∧ q.length ≤ c ∧ (q ≠ [] → ¬ X ad.block) ∧ ∀ i p, q[i]? = some p → w.cell? (ad.add i) = some (.int .u8 p)
theorem block_add (a : Addr) (n : Nat) : (a.add n).block = a.block := by unfold Addr.add; split <;> rfl
theorem add_add (a : Addr) (i j : Nat) : (a.add i).add j = a.add (i + j) := by
  unfold Addr.add
  by_cases hi : i = 0 <;> by_cases hj : j = 0 <;> simp [hi, hj, Nat.add_assoc]
theorem VR.le {w : World} {X : Nat → Prop} {A : Option Addr} {c : Nat} {q : List Int} (h : VR w X A c q) : q.length ≤ c := by
  rcases h with ⟨rfl, rfl, rfl⟩ | ⟨ad, rfl, hl, _⟩
  · exact Nat.le_refl _
  · exact hl
theorem cell_block {w w' : World} {a : Addr} {v : Value} (h : w.cell? a = some v) (hb : w'.heap[a.block]? = w.heap[a.block]?) : w'.cell? a = some v := by rw [← h]; exact World.cell?_of_block hb
theorem VR.move {w w' : World} {X : Nat → Prop} {A : Option Addr} {c : Nat} {q : List Int} (h : VR w X A c q) (hm : ∀ k, k < w.heap.size → ¬ X k → w'.heap[k]? = w.heap[k]?) : VR w' X A c q := by
  rcases h with h | ⟨ad, rfl, hl, hX, hc⟩
  · exact .inl h
  · refine .inr ⟨ad, rfl, hl, hX, fun i p hp => ?_⟩
    have h1 := hc i p hp
    refine cell_block h1 (hm _ ?_ (by rw [block_add]; exact hX (by rintro rfl; simp at hp)))
    obtain ⟨o, ho⟩ : ∃ o, w.heap[(ad.add i).block]? = some o := by
      cases hh : w.heap[(ad.add i).block]? with
      | none => simp [World.cell?, hh] at h1
      | some o => exact ⟨o, rfl⟩
    exact blk_lt ho
theorem VR.below {w w' : World} {X : Nat → Prop} {A : Option Addr} {c : Nat} {q : List Int} (h : VR w X A c q) (k : Below w.heap.size w w') : VR w' X A c q := h.move fun i hi _ => k.block i hi
theorem VR.drawn {w w' : World} {X : Nat → Prop} {A : Option Addr} {c : Nat} {q : List Int} (h : VR w X A c q) (k : Drawn0 w w') : VR w' X A c q := h.below k.below
theorem VR.wide {w : World} {X Y : Nat → Prop} {A : Option Addr} {c : Nat} {q : List Int} (h : VR w X A c q) (hY : ∀ k, Y k → X k ∨ w.heap.size ≤ k) : VR w Y A c q := by
  rcases h with h | ⟨ad, rfl, hl, hX, hc⟩
  · exact .inl h
  · refine .inr ⟨ad, rfl, hl, fun hq hy => ?_, hc⟩
    rcases hY _ hy with h | h
    · exact hX hq h
    · obtain ⟨x, q', rfl⟩ := List.exists_cons_of_ne_nil hq
      have h1 := hc 0 x rfl
      have hb : (ad.add 0).block < w.heap.size := by
        obtain ⟨o, ho⟩ : ∃ o, w.heap[(ad.add 0).block]? = some o := by
          cases hh : w.heap[(ad.add 0).block]? with
          | none => simp [World.cell?, hh] at h1
          | some o => exact ⟨o, rfl⟩
        exact blk_lt ho
      rw [block_add] at hb
      omega
theorem VR.only {w w' : World} {X : Nat → Prop} {B : Nat} {A : Option Addr} {c : Nat} {q : List Int} (h : VR w X A c q) (k : Only B w w') (hB : X B) : VR w' X A c q := h.move fun i hi hx => k.block i hi (fun e => hx (e ▸ hB))
theorem VR.C {w : World} {X : Nat → Prop} {A : Option Addr} {c : Nat} {q : List Int} (h : VR w X A c q) (hq : q.length ≤ 9223372036854775807) : (Kd.int .u8).C w A q.length q := by
  rcases h with ⟨rfl, rfl, rfl⟩ | ⟨ad, rfl, hl, hX, hc⟩
  · exact ⟨rfl, by simp, fun h => absurd h (by simp)⟩
  · refine ⟨rfl, hq, fun _ => ⟨ad, rfl, fun j p hp => ⟨[.int .u8 p], rfl, rfl, fun i u hu => ?_⟩⟩⟩
    have hi : i = 0 ∧ u = .int .u8 p := by
      cases i with
      | zero => simp at hu; exact ⟨rfl, hu.symm⟩
      | succ i => simp at hu
    obtain ⟨rfl, rfl⟩ := hi
    have e1 : ad.add (j * (Kd.int .u8).sz + 0) = ad.add j := by
      show ad.add (j * 1 + 0) = _
      rw [Nat.mul_one, Nat.add_zero]
    rw [e1]; exact hc j p hp
theorem VR.of_own {w : World} {X : Nat → Prop} {base : Nat} {v : Value} {q : List Int} (h : w.ownsRow base 5 1 v q.length (q.map (Value.int .u8))) (hX : ∀ k, X k → k < base) : ∃ A c, v = .slice A q.length c ∧ VR w X A c q := by
  rcases h.2 with ⟨rfl, h0⟩ | ⟨g, cap, cur, rfl, hg, hh, hn, hm, hs, ht⟩
  · have : q = [] := List.eq_nil_of_length_eq_zero h0
    subst this
    exact ⟨none, 0, rfl, .inl ⟨rfl, rfl, rfl⟩⟩
  · refine ⟨_, cap, rfl, .inr ⟨_, rfl, hn, fun _ hx => by have := hX _ hx; simp at this; omega, fun j p hp => ?_⟩⟩
    have e1 : (⟨g, 0, none⟩ : Addr).add j = ⟨g, j, none⟩ := by simp [Addr.add]; try omega
    rw [e1, blk_cell hh]
    have hj : j < q.length := (List.getElem?_eq_some_iff.1 hp).1
    have h2 : (q.map (Value.int .u8))[j]? = some (.int .u8 p) := by simp [hp]
    rw [← ht, List.getElem?_take, if_pos (by omega)] at h2
    simpa using h2

set_option maxRecDepth 100000 in
theorem rpop_nil (w : World) (A : Option Addr) (c : Nat) : Calls Try.prog 72 #[.slice A 0 c] w fun e w' => e = .returned (.tuple #[.slice A 0 c, .int .u8 0, .bool false]) ∧ Drawn0 w w' := by
  go_enter Try.func72, Try.ntmps72
  go_wp2
  go_ret3
  exact ⟨rfl, Drawn0.refl _⟩

set_option maxRecDepth 100000 in
set_option maxHeartbeats 1000000 in
theorem rpop_cons (w : World) (X : Nat → Prop) (A : Option Addr) (c : Nat) (x : Int) (q : List Int) (h : VR w X A c (x :: q)) (hq : q.length ≤ 1000000) : Calls Try.prog 72 #[.slice A (q.length + 1) c] w fun e w' => ∃ A', e = .returned (.tuple #[.slice A' q.length (c - 1), .int .u8 x, .bool true]) ∧ VR w' X A' (c - 1) q ∧ Drawn0 w w' := by
  rcases h with ⟨_, _, h⟩ | ⟨ad, rfl, hl, hX, hc⟩
  · cases h
  have hl' : q.length + 1 ≤ c := by simpa using hl
  have c0 : w.cell? ad = some (.int .u8 x) := by have := hc 0 x rfl; simpa [Addr.add] using this
  have c00 : ∀ n, (w.drewN n).cell? ad = some (.int .u8 x) := fun n => c0
  have hnn : (((q.length : Int) + 1) == 0) = false := beq_eq_false_iff_ne.2 (by omega)
  obtain ⟨i0, hi0, _, hsz0, _⟩ := info_parts (show (Try.prog.info? 5).map (fun i => (i.zero, i.size, i.bytes)) = some (some (.int .u8 0), 1, 1) by kernel_rfl)
  have hcut := cut_from (P := Try.prog) 29 5 .i64 Try.underlying29 hi0 1 hsz0 (some ad) (q.length + 1) c 1 (by omega) (by omega)
  have e1 : (q.length + 1) - (1 : Int).toNat = q.length := by simp
  have e2 : c - (1 : Int).toNat = c - 1 := by simp
  obtain ⟨A', hA'⟩ : ∃ A', (if c = (1 : Int).toNat then some ad else (some ad : Option Addr).map (·.add ((1 : Int).toNat * 1))) = A' := ⟨_, rfl⟩
  rw [e1, e2, hA'] at hcut
  have HV : Aside0 (VR w X A' (c - 1) q) := ⟨by
    rw [← hA']
    by_cases hc1 : c = 1
    · have : q = [] := List.eq_nil_of_length_eq_zero (by omega)
      subst this
      refine .inr ⟨ad, by rw [if_pos (by simpa using hc1)], by simp, fun h => absurd rfl h, fun i p hp => by simp at hp⟩
    · refine .inr ⟨ad.add 1, by rw [if_neg (by simpa using hc1)]; rfl, by omega, fun _ => by rw [block_add]; exact hX (by simp), fun i p hp => ?_⟩
      rw [add_add, Nat.add_comm]
      exact hc (i + 1) p (by simpa using hp)⟩
  have HL := Aside0.mk hl'
  clear hc hA' e1 e2 hi0 hsz0 hl hl'
  have b0 : (0 : Int) ≤ (q.length : Int) + 1 := by omega
  have b1 : (0 : Int) < (q.length : Int) + 1 := by omega
  go_enter Try.func72, Try.ntmps72
  go_wp2_with fail
  go_quiet (fail)
  all_goals go_wp2
  all_goals go_ret3
  all_goals exact ⟨A', rfl, HV.out.drawn ⟨⟨_, rfl⟩⟩, ⟨⟨_, rfl⟩⟩⟩

set_option maxRecDepth 100000 in
theorem rpush_full (w : World) (A : Option Addr) (n c : Nat) (x : Int) (h : 16 ≤ n) : Calls Try.prog 71 #[.slice A n c, .int .u8 x] w fun e w' => e = .returned (.tuple #[.slice A n c, .bool false]) ∧ Drawn0 w w' := by
  go_enter Try.func71, Try.ntmps71
  go_wp2
  go_ret2
  exact ⟨rfl, Drawn0.refl _⟩

set_option maxRecDepth 100000 in
set_option maxHeartbeats 2000000 in
theorem rpush_some (w : World) (X : Nat → Prop) (ad : Addr) (c : Nat) (q : List Int) (x : Int) (h : VR w X (some ad) c q) (hX : ∀ k, X k → k < w.heap.size) (hq : q.length < 16) : Calls Try.prog 71 #[.slice (some ad) q.length c, .int .u8 x] w fun e w' => ∃ v, e = .returned (.tuple #[v, .bool true]) ∧ w'.ownsRow w.heap.size 5 1 v (q.length + 1) ((q ++ [x]).map (Value.int .u8)) ∧ Below w.heap.size w w' := by
  obtain ⟨i0, hi, hz0, hz1, hz2⟩ := info_parts (show (Try.prog.info? 5).map (fun i => (i.zero, i.size, i.bytes)) = some (some (.int .u8 0), 1, 1) by kernel_rfl)
  have hcells : ∀ o j u, (q.map (Value.int .u8))[j]? = some u → (w.alloc o).cell? (ad.add j) = some u := by
    intro o j u hu
    rcases h with ⟨h, _⟩ | ⟨ad', h, hl, hnx, hc⟩
    · cases h
    · cases h
      rw [List.getElem?_map] at hu
      obtain ⟨p, hp, rfl⟩ := Option.map_eq_some_iff.1 hu
      exact pw_cell_below (below_alloc (Below.refl _ _) o) (hc j p hp)
  have HC := Aside0.mk hcells
  have hown0 : (w.alloc (.cells #[] 5)).ownsRow w.heap.size 5 1 (.slice (some ⟨w.heap.size, 0, none⟩) 0 0) 0 [] := by
    have := World.ownsRow_lit (base := w.heap.size) (e := 5) (size := 1) w #[] 0 (Nat.le_refl _) (by decide) rfl
    simpa using this
  have HO := Aside0.mk hown0
  have hB0 := Aside0.mk (below_alloc (Below.refl w.heap.size w) (.cells #[] 5))
  clear h hcells hown0
  go_enter Try.func71, Try.ntmps71
  go_wp2_with (first
    | (at_builtin; refine wpList_append_own _ rfl (.tmp 10) (.tmp 11) 29 rfl w.heap.size 5 i0 (.int .u8 0) 1 1 Try.underlying29 hi hz0 hz1 hz2 rfl (by decide) _ 0 [] rfl HO.out ad q.length c (q.map (Value.int .u8)) rfl (by simp) (HC.out _) (by intro u hu; obtain ⟨p, _, rfl⟩ := List.mem_map.1 hu; rfl) (by simp only [maxLen]; omega) (by omega) (by simp) ?_; intro v1 w1 hown1 hgrow1 _; simp only [Nat.zero_add, List.nil_append] at hown1; have hb1 := Aside0.mk (hB0.out.grown hgrow1 hB0.out.size (fun k hk => own_base HO.out k hk)); have HO1 := Aside0.mk hown1; clear hown1 hgrow1)
    | (at_builtin; refine wpList_append_own _ rfl (.tmp 12) (.tmp 14) 29 rfl w.heap.size 5 i0 (.int .u8 0) 1 1 Try.underlying29 hi hz0 hz1 hz2 rfl (by decide) _ q.length (q.map (Value.int .u8)) rfl (HO1.out.alloc _) ⟨w1.heap.size, 0, none⟩ 1 1 [.int .u8 x] rfl rfl (cell_one_new _ _ _) (by simp [Value.oneCell']) (by simp only [maxLen]; omega) (by omega) (by have := hb1.out.size; simp; omega) ?_; intro v2 w2 hown2 hgrow2 _; have hb2 := Aside0.mk ((below_alloc hb1.out (.cells #[.int .u8 x] 5)).grown hgrow2 (below_alloc hb1.out (.cells #[.int .u8 x] 5)).size (fun k hk => own_base (HO1.out.alloc (.cells #[.int .u8 x] 5)) k hk)); have HO2 := Aside0.mk hown2; clear hown2 hgrow2))
  go_ret2
  exact ⟨v2, rfl, by simpa using HO2.out, hb2.out⟩

set_option maxRecDepth 100000 in
set_option maxHeartbeats 2000000 in
theorem rpush_none (w : World) (x : Int) : Calls Try.prog 71 #[.slice none 0 0, .int .u8 x] w fun e w' => ∃ v, e = .returned (.tuple #[v, .bool true]) ∧ w'.ownsRow w.heap.size 5 1 v 1 ([x].map (Value.int .u8)) ∧ Below w.heap.size w w' := by
  obtain ⟨i0, hi, hz0, hz1, hz2⟩ := info_parts (show (Try.prog.info? 5).map (fun i => (i.zero, i.size, i.bytes)) = some (some (.int .u8 0), 1, 1) by kernel_rfl)
  have hown0 : (w.alloc (.cells #[] 5)).ownsRow w.heap.size 5 1 (.slice (some ⟨w.heap.size, 0, none⟩) 0 0) 0 [] := by
    have := World.ownsRow_lit (base := w.heap.size) (e := 5) (size := 1) w #[] 0 (Nat.le_refl _) (by decide) rfl
    simpa using this
  have HO := Aside0.mk hown0
  have hB0 := Aside0.mk (below_alloc (Below.refl w.heap.size w) (.cells #[] 5))
  clear hown0
  go_enter Try.func71, Try.ntmps71
  go_wp2_with (first
    | (at_builtin; refine wpList_append_own_none rfl (.tmp 10) (.tmp 11) 29 rfl w.heap.size 5 i0 1 Try.underlying29 hi _ 0 [] rfl HO.out rfl ?_)
    | (at_builtin; refine wpList_append_own _ rfl (.tmp 12) (.tmp 14) 29 rfl w.heap.size 5 i0 (.int .u8 0) 1 1 Try.underlying29 hi hz0 hz1 hz2 rfl (by decide) _ 0 [] rfl (HO.out.alloc _) ⟨w.heap.size + 1, 0, none⟩ 1 1 [.int .u8 x] rfl rfl (by have := cell_one_new (w.alloc (.cells #[] 5)) (.int .u8 x) 5; rwa [World.size_alloc] at this) (by simp [Value.oneCell']) (by simp only [maxLen]; omega) (by omega) (by simp; omega) ?_; intro v2 w2 hown2 hgrow2 _; have hb2 := Aside0.mk ((below_alloc hB0.out (.cells #[.int .u8 x] 5)).grown hgrow2 (below_alloc hB0.out (.cells #[.int .u8 x] 5)).size (fun k hk => own_base (HO.out.alloc (.cells #[.int .u8 x] 5)) k hk)); have HO2 := Aside0.mk hown2; clear hown2 hgrow2))
  go_ret2
  exact ⟨v2, rfl, by simpa using HO2.out, hb2.out⟩

/-- Push, on whatever row. -/
theorem rpush_calls (w : World) (X : Nat → Prop) (A : Option Addr) (c : Nat) (q : List Int) (x : Int) (h : VR w X A c q) (hX : ∀ k, X k → k < w.heap.size) : Calls Try.prog 71 #[.slice A q.length c, .int .u8 x] w fun e w' => ∃ A' c', e = .returned (.tuple #[.slice A' (if q.length < 16 then q ++ [x] else q).length c', .bool (decide (q.length < 16))]) ∧ VR w' X A' c' (if q.length < 16 then q ++ [x] else q) ∧ Below w.heap.size w w' := by
  by_cases hq : q.length < 16
  · rw [if_pos hq, decide_eq_true hq]
    have fin : ∀ w' v, w'.ownsRow w.heap.size 5 1 v (q.length + 1) ((q ++ [x]).map (Value.int .u8)) → ∃ A' c', v = .slice A' (q ++ [x]).length c' ∧ VR w' X A' c' (q ++ [x]) := fun w' v ho => VR.of_own (by simpa using ho) hX
    cases A with
    | none =>
      rcases h with ⟨_, rfl, rfl⟩ | ⟨ad, h, _⟩
      · refine (rpush_none w x).mono fun e w' ⟨v, he, ho, hb⟩ => ?_
        obtain ⟨A', c', rfl, hv⟩ := fin w' v (by simpa using ho)
        exact ⟨A', c', he, hv, hb⟩
      · cases h
    | some ad =>
      refine (rpush_some w X ad c q x h hX hq).mono fun e w' ⟨v, he, ho, hb⟩ => ?_
      obtain ⟨A', c', rfl, hv⟩ := fin w' v ho
      exact ⟨A', c', he, hv, hb⟩
  · rw [if_neg hq, decide_eq_false hq]
    exact (rpush_full w A q.length c x (by omega)).mono fun e w' ⟨he, d⟩ => ⟨A, c, he, h.drawn d, d.below⟩

/-- Pop, on whatever row. -/
theorem rpop_calls (w : World) (X : Nat → Prop) (A : Option Addr) (c : Nat) (q : List Int) (h : VR w X A c q) (hq : q.length ≤ 1000000) : Calls Try.prog 72 #[.slice A q.length c] w fun e w' => ∃ A' c', e = .returned (.tuple #[.slice A' q.tail.length c', .int .u8 (q.headD 0), .bool (!q.isEmpty)]) ∧ VR w' X A' c' q.tail ∧ Drawn0 w w' := by
  cases q with
  | nil => exact (rpop_nil w A c).mono fun e w' ⟨he, d⟩ => ⟨A, c, he, h.drawn d, d⟩
  | cons x q => exact (rpop_cons w X A c x q h (by simp at hq; omega)).mono fun e w' ⟨A', he, hv, d⟩ => ⟨A', c - 1, he, hv, d⟩

end Go.Proofs.Ytonfblfbmnepoaa
