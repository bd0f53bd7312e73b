/- The statements' own console (mimesisref12): Up. -/
import Derived.Laws.Rows
import Derived.Laws.ResultCell
import Derived.Test.YtdalboofhckobaaDoorOnly
import Derived.Test.YtdalboofhckobaaDoorProg
import Derived.WalkKit
import Derived.RegionTactic
import Derived.Deep.QuietTactic
import Derived.BigQuiet
import Derived.OwnWalk
import Derived.Laws.AppendOwn
import Derived.Laws.AppendOwnNone
import Derived.Laws.OwnMore
import Derived.Maps.AppendAt
import Derived.Test.YtdalboofhckobaaDoorConRight
import Derived.Deep.WholeRow
import Derived.Laws.Tables
import Derived.Deep.LoopGhost
import Derived.Deep.RegionHeld3
namespace Go.Proofs.YtdalboofhckobaaDoor
open Go
theorem results_cell_row_tmp {P : Program} {fn : Func} {p u : Tmp} {ty : TypeId} (h : fn.results = #[.cell p ty, .tmp u]) (tmps : Array Value) (w : World) (g : Nat) (t : TypeId) (cs : Array Value) (fr : Nat × Nat) (d : TypeDesc)
    (hp : tmps.getD p undef = .pointer (some ⟨g, 0, none⟩)) (hg : w.heap[g]? = some (.cells cs t fr))
    (hu : P.underlying ty = some d) (hd : (match d with | .struct _ | .array _ _ => true | _ => false) = true) (hi : (P.info? ty).map (·.size) = some cs.size) :
    (results fn tmps).run P w = .ok (.tuple #[.agg cs, tmps.getD u undef]) w := by
  rw [results_cell_tmp h]
  have hp' : (asAddr (tmps.getD p undef)).run P w = .ok ⟨g, 0, none⟩ w := by rw [hp]; rfl
  rw [hp']
  simp only [Result.andThen_ok]
  rw [run_loadVar_row w g t ty cs fr d hg hu hd hi]
  rfl
end Go.Proofs.YtdalboofhckobaaDoor

namespace Go.Proofs.YtdalboofhckobaaDoor
open Go Go.RowKit Go.Proofs.YtdalboofhckobaaDoorW.PrintWords
set_option linter.unusedVariables false
set_option linter.unusedSimpArgs false

/-- The slice of A, so long, with capacity c, reads as the bytes q; it lies in no block that X holds of. -/
def VR (w : World) (X : Nat → Prop) (A : Option Addr) (c : Nat) (q : List Int) : Prop :=
  (A = none ∧ c = 0 ∧ q = []) ∨ ∃ ad, A = some ad ∧ q.length ≤ c ∧ (q ≠ [] → ¬ X ad.block) ∧ ∀ i p, q[i]? = some p → w.cell? (ad.add i) = some (.int .u8 p)
theorem block_add (a : Addr) (n : Nat) : (a.add n).block = a.block := by unfold Addr.add; split <;> rfl
theorem add_add (a : Addr) (i j : Nat) : (a.add i).add j = a.add (i + j) := by
  unfold Addr.add
  by_cases hi : i = 0 <;> by_cases hj : j = 0 <;> simp [hi, hj, Nat.add_assoc]
theorem VR.le {w : World} {X : Nat → Prop} {A : Option Addr} {c : Nat} {q : List Int} (h : VR w X A c q) : q.length ≤ c := by
  rcases h with ⟨rfl, rfl, rfl⟩ | ⟨ad, rfl, hl, _⟩
  · exact Nat.le_refl _
  · exact hl
theorem cell_block {w w' : World} {a : Addr} {v : Value} (h : w.cell? a = some v) (hb : w'.heap[a.block]? = w.heap[a.block]?) : w'.cell? a = some v := by rw [← h]; exact World.cell?_of_block hb
theorem VR.move {w w' : World} {X : Nat → Prop} {A : Option Addr} {c : Nat} {q : List Int} (h : VR w X A c q) (hm : ∀ k, k < w.heap.size → ¬ X k → w'.heap[k]? = w.heap[k]?) : VR w' X A c q := by
  rcases h with h | ⟨ad, rfl, hl, hX, hc⟩
  · exact .inl h
  · refine .inr ⟨ad, rfl, hl, hX, fun i p hp => ?_⟩
    have h1 := hc i p hp
    refine cell_block h1 (hm _ ?_ (by rw [block_add]; exact hX (by rintro rfl; simp at hp)))
    obtain ⟨o, ho⟩ : ∃ o, w.heap[(ad.add i).block]? = some o := by
      cases hh : w.heap[(ad.add i).block]? with
      | none => simp [World.cell?, hh] at h1
      | some o => exact ⟨o, rfl⟩
    exact blk_lt ho
theorem VR.below {w w' : World} {X : Nat → Prop} {A : Option Addr} {c : Nat} {q : List Int} (h : VR w X A c q) (k : Below w.heap.size w w') : VR w' X A c q := h.move fun i hi _ => k.block i hi
theorem VR.drawn {w w' : World} {X : Nat → Prop} {A : Option Addr} {c : Nat} {q : List Int} (h : VR w X A c q) (k : Drawn0 w w') : VR w' X A c q := h.below k.below
theorem VR.wide {w : World} {X Y : Nat → Prop} {A : Option Addr} {c : Nat} {q : List Int} (h : VR w X A c q) (hY : ∀ k, Y k → X k ∨ w.heap.size ≤ k) : VR w Y A c q := by
  rcases h with h | ⟨ad, rfl, hl, hX, hc⟩
  · exact .inl h
  · refine .inr ⟨ad, rfl, hl, fun hq hy => ?_, hc⟩
    rcases hY _ hy with h | h
    · exact hX hq h
    · obtain ⟨x, q', rfl⟩ := List.exists_cons_of_ne_nil hq
      have h1 := hc 0 x rfl
      have hb : (ad.add 0).block < w.heap.size := by
        obtain ⟨o, ho⟩ : ∃ o, w.heap[(ad.add 0).block]? = some o := by
          cases hh : w.heap[(ad.add 0).block]? with
          | none => simp [World.cell?, hh] at h1
          | some o => exact ⟨o, rfl⟩
        exact blk_lt ho
      rw [block_add] at hb
      omega
theorem VR.only {w w' : World} {X : Nat → Prop} {B : Nat} {A : Option Addr} {c : Nat} {q : List Int} (h : VR w X A c q) (k : Only B w w') (hB : X B) : VR w' X A c q := h.move fun i hi hx => k.block i hi (fun e => hx (e ▸ hB))
theorem VR.C {w : World} {X : Nat → Prop} {A : Option Addr} {c : Nat} {q : List Int} (h : VR w X A c q) (hq : q.length ≤ 9223372036854775807) : (Kd.int .u8).C w A q.length q := by
  rcases h with ⟨rfl, rfl, rfl⟩ | ⟨ad, rfl, hl, hX, hc⟩
  · exact ⟨rfl, by simp, fun h => absurd h (by simp)⟩
  · refine ⟨rfl, hq, fun _ => ⟨ad, rfl, fun j p hp => ⟨[.int .u8 p], rfl, rfl, fun i u hu => ?_⟩⟩⟩
    have hi : i = 0 ∧ u = .int .u8 p := by
      cases i with
      | zero => simp at hu; exact ⟨rfl, hu.symm⟩
      | succ i => simp at hu
    obtain ⟨rfl, rfl⟩ := hi
    have e1 : ad.add (j * (Kd.int .u8).sz + 0) = ad.add j := by
      show ad.add (j * 1 + 0) = _
      rw [Nat.mul_one, Nat.add_zero]
    rw [e1]; exact hc j p hp
theorem VR.of_own {w : World} {X : Nat → Prop} {base : Nat} {v : Value} {q : List Int} (h : w.ownsRow base 5 1 v q.length (q.map (Value.int .u8))) (hX : ∀ k, X k → k < base) : ∃ A c, v = .slice A q.length c ∧ VR w X A c q := by
  rcases h.2 with ⟨rfl, h0⟩ | ⟨g, cap, cur, rfl, hg, hh, hn, hm, hs, ht⟩
  · have : q = [] := List.eq_nil_of_length_eq_zero h0
    subst this
    exact ⟨none, 0, rfl, .inl ⟨rfl, rfl, rfl⟩⟩
  · refine ⟨_, cap, rfl, .inr ⟨_, rfl, hn, fun _ hx => by have := hX _ hx; simp at this; omega, fun j p hp => ?_⟩⟩
    have e1 : (⟨g, 0, none⟩ : Addr).add j = ⟨g, j, none⟩ := by simp [Addr.add]; try omega
    rw [e1, blk_cell hh]
    have hj : j < q.length := (List.getElem?_eq_some_iff.1 hp).1
    have h2 : (q.map (Value.int .u8))[j]? = some (.int .u8 p) := by simp [hp]
    rw [← ht, List.getElem?_take, if_pos (by omega)] at h2
    simpa using h2

set_option maxRecDepth 100000 in
theorem rpop_nil (w : World) (A : Option Addr) (c : Nat) : Calls Tryd.prog 86 #[.slice A 0 c] w fun e w' => e = .returned (.tuple #[.slice A 0 c, .int .u8 0, .bool false]) ∧ Drawn0 w w' := by
  go_enter Tryd.func86, Tryd.ntmps86
  go_wp2
  go_ret3
  exact ⟨rfl, Drawn0.refl _⟩

set_option maxRecDepth 100000 in
set_option maxHeartbeats 1000000 in
theorem rpop_cons (w : World) (X : Nat → Prop) (A : Option Addr) (c : Nat) (x : Int) (q : List Int) (h : VR w X A c (x :: q)) (hq : q.length ≤ 1000000) : Calls Tryd.prog 86 #[.slice A (q.length + 1) c] w fun e w' => ∃ A', e = .returned (.tuple #[.slice A' q.length (c - 1), .int .u8 x, .bool true]) ∧ VR w' X A' (c - 1) q ∧ Drawn0 w w' := by
  rcases h with ⟨_, _, h⟩ | ⟨ad, rfl, hl, hX, hc⟩
  · cases h
  have hl' : q.length + 1 ≤ c := by simpa using hl
  have c0 : w.cell? ad = some (.int .u8 x) := by have := hc 0 x rfl; simpa [Addr.add] using this
  have c00 : ∀ n, (w.drewN n).cell? ad = some (.int .u8 x) := fun n => c0
  have hnn : (((q.length : Int) + 1) == 0) = false := beq_eq_false_iff_ne.2 (by omega)
  obtain ⟨i0, hi0, _, hsz0, _⟩ := info_parts (show (Tryd.prog.info? 5).map (fun i => (i.zero, i.size, i.bytes)) = some (some (.int .u8 0), 1, 1) by kernel_rfl)
  have hcut := cut_from (P := Tryd.prog) 29 5 .i64 Tryd.underlying29 hi0 1 hsz0 (some ad) (q.length + 1) c 1 (by omega) (by omega)
  have e1 : (q.length + 1) - (1 : Int).toNat = q.length := by simp
  have e2 : c - (1 : Int).toNat = c - 1 := by simp
  obtain ⟨A', hA'⟩ : ∃ A', (if c = (1 : Int).toNat then some ad else (some ad : Option Addr).map (·.add ((1 : Int).toNat * 1))) = A' := ⟨_, rfl⟩
  rw [e1, e2, hA'] at hcut
  have HV : Aside0 (VR w X A' (c - 1) q) := ⟨by
    rw [← hA']
    by_cases hc1 : c = 1
    · have : q = [] := List.eq_nil_of_length_eq_zero (by omega)
      subst this
      refine .inr ⟨ad, by rw [if_pos (by simpa using hc1)], by simp, fun h => absurd rfl h, fun i p hp => by simp at hp⟩
    · refine .inr ⟨ad.add 1, by rw [if_neg (by simpa using hc1)]; rfl, by omega, fun _ => by rw [block_add]; exact hX (by simp), fun i p hp => ?_⟩
      rw [add_add, Nat.add_comm]
      exact hc (i + 1) p (by simpa using hp)⟩
  have HL := Aside0.mk hl'
  clear hc hA' e1 e2 hi0 hsz0 hl hl'
  have b0 : (0 : Int) ≤ (q.length : Int) + 1 := by omega
  have b1 : (0 : Int) < (q.length : Int) + 1 := by omega
  go_enter Tryd.func86, Tryd.ntmps86
  go_wp2_with fail
  go_quiet (fail)
  all_goals go_wp2
  all_goals go_ret3
  all_goals exact ⟨A', rfl, HV.out.drawn ⟨⟨_, rfl⟩⟩, ⟨⟨_, rfl⟩⟩⟩

set_option maxRecDepth 100000 in
theorem rpush_full (w : World) (A : Option Addr) (n c : Nat) (x : Int) (h : 16 ≤ n) : Calls Tryd.prog 79 #[.slice A n c, .int .u8 x] w fun e w' => e = .returned (.tuple #[.slice A n c, .bool false]) ∧ Drawn0 w w' := by
  go_enter Tryd.func79, Tryd.ntmps79
  go_wp2
  go_ret2
  exact ⟨rfl, Drawn0.refl _⟩

set_option maxRecDepth 100000 in
set_option maxHeartbeats 2000000 in
theorem rpush_some (w : World) (X : Nat → Prop) (ad : Addr) (c : Nat) (q : List Int) (x : Int) (h : VR w X (some ad) c q) (hX : ∀ k, X k → k < w.heap.size) (hq : q.length < 16) : Calls Tryd.prog 79 #[.slice (some ad) q.length c, .int .u8 x] w fun e w' => ∃ v, e = .returned (.tuple #[v, .bool true]) ∧ w'.ownsRow w.heap.size 5 1 v (q.length + 1) ((q ++ [x]).map (Value.int .u8)) ∧ Below w.heap.size w w' := by
  obtain ⟨i0, hi, hz0, hz1, hz2⟩ := info_parts (show (Tryd.prog.info? 5).map (fun i => (i.zero, i.size, i.bytes)) = some (some (.int .u8 0), 1, 1) by kernel_rfl)
  have hcells : ∀ o j u, (q.map (Value.int .u8))[j]? = some u → (w.alloc o).cell? (ad.add j) = some u := by
    intro o j u hu
    rcases h with ⟨h, _⟩ | ⟨ad', h, hl, hnx, hc⟩
    · cases h
    · cases h
      rw [List.getElem?_map] at hu
      obtain ⟨p, hp, rfl⟩ := Option.map_eq_some_iff.1 hu
      exact pw_cell_below (below_alloc (Below.refl _ _) o) (hc j p hp)
  have HC := Aside0.mk hcells
  have hown0 : (w.alloc (.cells #[] 5)).ownsRow w.heap.size 5 1 (.slice (some ⟨w.heap.size, 0, none⟩) 0 0) 0 [] := by
    have := World.ownsRow_lit (base := w.heap.size) (e := 5) (size := 1) w #[] 0 (Nat.le_refl _) (by decide) rfl
    simpa using this
  have HO := Aside0.mk hown0
  have hB0 := Aside0.mk (below_alloc (Below.refl w.heap.size w) (.cells #[] 5))
  clear h hcells hown0
  go_enter Tryd.func79, Tryd.ntmps79
  go_wp2_with (first
    | (at_builtin; refine wpList_append_own _ rfl (.tmp 10) (.tmp 11) 29 rfl w.heap.size 5 i0 (.int .u8 0) 1 1 Tryd.underlying29 hi hz0 hz1 hz2 rfl (by decide) _ 0 [] rfl HO.out ad q.length c (q.map (Value.int .u8)) rfl (by simp) (HC.out _) (by intro u hu; obtain ⟨p, _, rfl⟩ := List.mem_map.1 hu; rfl) (by simp only [maxLen]; omega) (by omega) (by simp) ?_; intro v1 w1 hown1 hgrow1 _; simp only [Nat.zero_add, List.nil_append] at hown1; have hb1 := Aside0.mk (hB0.out.grown hgrow1 hB0.out.size (fun k hk => own_base HO.out k hk)); have HO1 := Aside0.mk hown1; clear hown1 hgrow1)
    | (at_builtin; refine wpList_append_own _ rfl (.tmp 12) (.tmp 14) 29 rfl w.heap.size 5 i0 (.int .u8 0) 1 1 Tryd.underlying29 hi hz0 hz1 hz2 rfl (by decide) _ q.length (q.map (Value.int .u8)) rfl (HO1.out.alloc _) ⟨w1.heap.size, 0, none⟩ 1 1 [.int .u8 x] rfl rfl (cell_one_new _ _ _) (by simp [Value.oneCell']) (by simp only [maxLen]; omega) (by omega) (by have := hb1.out.size; simp; omega) ?_; intro v2 w2 hown2 hgrow2 _; have hb2 := Aside0.mk ((below_alloc hb1.out (.cells #[.int .u8 x] 5)).grown hgrow2 (below_alloc hb1.out (.cells #[.int .u8 x] 5)).size (fun k hk => own_base (HO1.out.alloc (.cells #[.int .u8 x] 5)) k hk)); have HO2 := Aside0.mk hown2; clear hown2 hgrow2))
  go_ret2
  exact ⟨v2, rfl, by simpa using HO2.out, hb2.out⟩

set_option maxRecDepth 100000 in
set_option maxHeartbeats 2000000 in
theorem rpush_none (w : World) (x : Int) : Calls Tryd.prog 79 #[.slice none 0 0, .int .u8 x] w fun e w' => ∃ v, e = .returned (.tuple #[v, .bool true]) ∧ w'.ownsRow w.heap.size 5 1 v 1 ([x].map (Value.int .u8)) ∧ Below w.heap.size w w' := by
  obtain ⟨i0, hi, hz0, hz1, hz2⟩ := info_parts (show (Tryd.prog.info? 5).map (fun i => (i.zero, i.size, i.bytes)) = some (some (.int .u8 0), 1, 1) by kernel_rfl)
  have hown0 : (w.alloc (.cells #[] 5)).ownsRow w.heap.size 5 1 (.slice (some ⟨w.heap.size, 0, none⟩) 0 0) 0 [] := by
    have := World.ownsRow_lit (base := w.heap.size) (e := 5) (size := 1) w #[] 0 (Nat.le_refl _) (by decide) rfl
    simpa using this
  have HO := Aside0.mk hown0
  have hB0 := Aside0.mk (below_alloc (Below.refl w.heap.size w) (.cells #[] 5))
  clear hown0
  go_enter Tryd.func79, Tryd.ntmps79
  go_wp2_with (first
    | (at_builtin; refine wpList_append_own_none rfl (.tmp 10) (.tmp 11) 29 rfl w.heap.size 5 i0 1 Tryd.underlying29 hi _ 0 [] rfl HO.out rfl ?_)
    | (at_builtin; refine wpList_append_own _ rfl (.tmp 12) (.tmp 14) 29 rfl w.heap.size 5 i0 (.int .u8 0) 1 1 Tryd.underlying29 hi hz0 hz1 hz2 rfl (by decide) _ 0 [] rfl (HO.out.alloc _) ⟨w.heap.size + 1, 0, none⟩ 1 1 [.int .u8 x] rfl rfl (by have := cell_one_new (w.alloc (.cells #[] 5)) (.int .u8 x) 5; rwa [World.size_alloc] at this) (by simp [Value.oneCell']) (by simp only [maxLen]; omega) (by omega) (by simp; omega) ?_; intro v2 w2 hown2 hgrow2 _; have hb2 := Aside0.mk ((below_alloc hB0.out (.cells #[.int .u8 x] 5)).grown hgrow2 (below_alloc hB0.out (.cells #[.int .u8 x] 5)).size (fun k hk => own_base (HO.out.alloc (.cells #[.int .u8 x] 5)) k hk)); have HO2 := Aside0.mk hown2; clear hown2 hgrow2))
  go_ret2
  exact ⟨v2, rfl, by simpa using HO2.out, hb2.out⟩

/-- Push, on whatever row. -/
theorem rpush_calls (w : World) (X : Nat → Prop) (A : Option Addr) (c : Nat) (q : List Int) (x : Int) (h : VR w X A c q) (hX : ∀ k, X k → k < w.heap.size) : Calls Tryd.prog 79 #[.slice A q.length c, .int .u8 x] w fun e w' => ∃ A' c', e = .returned (.tuple #[.slice A' (if q.length < 16 then q ++ [x] else q).length c', .bool (decide (q.length < 16))]) ∧ VR w' X A' c' (if q.length < 16 then q ++ [x] else q) ∧ Below w.heap.size w w' := by
  by_cases hq : q.length < 16
  · rw [if_pos hq, decide_eq_true hq]
    have fin : ∀ w' v, w'.ownsRow w.heap.size 5 1 v (q.length + 1) ((q ++ [x]).map (Value.int .u8)) → ∃ A' c', v = .slice A' (q ++ [x]).length c' ∧ VR w' X A' c' (q ++ [x]) := fun w' v ho => VR.of_own (by simpa using ho) hX
    cases A with
    | none =>
      rcases h with ⟨_, rfl, rfl⟩ | ⟨ad, h, _⟩
      · refine (rpush_none w x).mono fun e w' ⟨v, he, ho, hb⟩ => ?_
        obtain ⟨A', c', rfl, hv⟩ := fin w' v (by simpa using ho)
        exact ⟨A', c', he, hv, hb⟩
      · cases h
    | some ad =>
      refine (rpush_some w X ad c q x h hX hq).mono fun e w' ⟨v, he, ho, hb⟩ => ?_
      obtain ⟨A', c', rfl, hv⟩ := fin w' v ho
      exact ⟨A', c', he, hv, hb⟩
  · rw [if_neg hq, decide_eq_false hq]
    exact (rpush_full w A q.length c x (by omega)).mono fun e w' ⟨he, d⟩ => ⟨A, c, he, h.drawn d, d.below⟩

/-- Pop, on whatever row. -/
theorem rpop_calls (w : World) (X : Nat → Prop) (A : Option Addr) (c : Nat) (q : List Int) (h : VR w X A c q) (hq : q.length ≤ 1000000) : Calls Tryd.prog 86 #[.slice A q.length c] w fun e w' => ∃ A' c', e = .returned (.tuple #[.slice A' q.tail.length c', .int .u8 (q.headD 0), .bool (!q.isEmpty)]) ∧ VR w' X A' c' q.tail ∧ Drawn0 w w' := by
  cases q with
  | nil => exact (rpop_nil w A c).mono fun e w' ⟨he, d⟩ => ⟨A, c, he, h.drawn d, d⟩
  | cons x q => exact (rpop_cons w X A c x q h (by simp at hq; omega)).mono fun e w' ⟨A', he, hv, d⟩ => ⟨A', c - 1, he, hv, d⟩

end Go.Proofs.YtdalboofhckobaaDoor

namespace Go.Proofs.YtdalboofhckobaaDoor
open Go Go.RowKit Go.Deep Go.Proofs.YtdalboofhckobaaDoorW.PrintWords
set_option linter.unusedVariables false
set_option linter.unusedSimpArgs false

/-- v is the statements' console: what came, what waits, was one lost, what went out; X holds of none of its blocks. -/
def VC (w : World) (X : Nat → Prop) (A : Option Addr) (len cap : Nat) (v : Value) (came : Nat) (q : List Int) (over : Bool) (out : List Int) : Prop :=
  ∃ Ar cr Ao co, v = .agg #[.slice A len cap, .int .i64 (came : Int), .slice Ar q.length cr, .bool over, .slice Ao out.length co] ∧ VR w X Ar cr q ∧ VR w X Ao co out

/-- The two boxes at B: the console, and what is handed back. -/
structure Two (w : World) (B : Nat) (a b c d e : Value) (r0 r1 r2 r3 r4 : Value) : Prop where
  b : w.heap[B]? = some (.cells #[a, b, c, d, e] 60 (0, 0))
  r : w.heap[B + 1]? = some (.cells #[r0, r1, r2, r3, r4] 60 (0, 0))
theorem Two.new (w : World) (a b c d e r0 r1 r2 r3 r4 : Value) : Two ((w.alloc (.cells #[a, b, c, d, e] 60)).alloc (.cells #[r0, r1, r2, r3, r4] 60)) w.heap.size a b c d e r0 r1 r2 r3 r4 := by
  refine ⟨blk_below (blk_new w _) (below_alloc (Below.refl _ _) _), ?_⟩
  have := blk_new (w.alloc (.cells #[a, b, c, d, e] 60)) (.cells #[r0, r1, r2, r3, r4] 60)
  rwa [World.size_alloc] at this
theorem Two.below {w w' : World} {B : Nat} {a b c d e r0 r1 r2 r3 r4 : Value} (h : Two w B a b c d e r0 r1 r2 r3 r4) (k : Below w.heap.size w w') : Two w' B a b c d e r0 r1 r2 r3 r4 := ⟨blk_below h.b k, blk_below h.r k⟩
theorem two_below (w : World) (a b c d e r0 r1 r2 r3 r4 : Value) : Below w.heap.size w ((w.alloc (.cells #[a, b, c, d, e] 60)).alloc (.cells #[r0, r1, r2, r3, r4] 60)) := below_alloc (below_alloc (Below.refl _ _) _) _
theorem Two.cells {w : World} {B : Nat} {a b c d e r0 r1 r2 r3 r4 : Value} (h : Two w B a b c d e r0 r1 r2 r3 r4) : (w.cell? ⟨B, 0, none⟩ = some a ∧ w.cell? ⟨B, 1, none⟩ = some b ∧ w.cell? ⟨B, 2, none⟩ = some c ∧ w.cell? ⟨B, 3, none⟩ = some d ∧ w.cell? ⟨B, 4, none⟩ = some e) ∧ (w.cell? ⟨B + 1, 0, none⟩ = some r0 ∧ w.cell? ⟨B + 1, 1, none⟩ = some r1 ∧ w.cell? ⟨B + 1, 2, none⟩ = some r2 ∧ w.cell? ⟨B + 1, 3, none⟩ = some r3 ∧ w.cell? ⟨B + 1, 4, none⟩ = some r4) :=
  ⟨⟨(blk_cell h.b 0).trans rfl, (blk_cell h.b 1).trans rfl, (blk_cell h.b 2).trans rfl, (blk_cell h.b 3).trans rfl, (blk_cell h.b 4).trans rfl⟩, (blk_cell h.r 0).trans rfl, (blk_cell h.r 1).trans rfl, (blk_cell h.r 2).trans rfl, (blk_cell h.r 3).trans rfl, (blk_cell h.r 4).trans rfl⟩
theorem Two.frozen {w : World} {B : Nat} {a b c d e r0 r1 r2 r3 r4 : Value} (h : Two w B a b c d e r0 r1 r2 r3 r4) : (∀ i, w.frozen? ⟨B, i, none⟩ = false) ∧ ∀ i, w.frozen? ⟨B + 1, i, none⟩ = false := ⟨blk_frozen h.b, blk_frozen h.r⟩

theorem Two.setB {w : World} {B : Nat} {a b c d e r0 r1 r2 r3 r4 : Value} (h : Two w B a b c d e r0 r1 r2 r3 r4) (i : Nat) (u : Value) (cs : Array Value) (hcs : #[a, b, c, d, e].setIfInBounds i u = cs) : (w.setCell ⟨B, i, none⟩ u).heap[B]? = some (.cells cs 60 (0, 0)) ∧ (w.setCell ⟨B, i, none⟩ u).heap[B + 1]? = some (.cells #[r0, r1, r2, r3, r4] 60 (0, 0)) :=
  ⟨hcs ▸ blk_set h.b i u, blk_only h.r ((Only.refl B w).setCell i u) (by omega)⟩
theorem Two.set1 {w : World} {B : Nat} {a b c d e r0 r1 r2 r3 r4 : Value} (h : Two w B a b c d e r0 r1 r2 r3 r4) (u : Value) : Two (w.setCell ⟨B, 1, none⟩ u) B a u c d e r0 r1 r2 r3 r4 := ⟨(h.setB 1 u _ rfl).1, (h.setB 1 u _ rfl).2⟩
theorem Two.set2 {w : World} {B : Nat} {a b c d e r0 r1 r2 r3 r4 : Value} (h : Two w B a b c d e r0 r1 r2 r3 r4) (u : Value) : Two (w.setCell ⟨B, 2, none⟩ u) B a b u d e r0 r1 r2 r3 r4 := ⟨(h.setB 2 u _ rfl).1, (h.setB 2 u _ rfl).2⟩
theorem Two.set3 {w : World} {B : Nat} {a b c d e r0 r1 r2 r3 r4 : Value} (h : Two w B a b c d e r0 r1 r2 r3 r4) (u : Value) : Two (w.setCell ⟨B, 3, none⟩ u) B a b c u e r0 r1 r2 r3 r4 := ⟨(h.setB 3 u _ rfl).1, (h.setB 3 u _ rfl).2⟩
theorem Two.set4 {w : World} {B : Nat} {a b c d e r0 r1 r2 r3 r4 : Value} (h : Two w B a b c d e r0 r1 r2 r3 r4) (u : Value) : Two (w.setCell ⟨B, 4, none⟩ u) B a b c d u r0 r1 r2 r3 r4 := ⟨(h.setB 4 u _ rfl).1, (h.setB 4 u _ rfl).2⟩
/-- The whole of the console is stored into the other box. -/
def copyW (w : World) (B : Nat) (a b c d e : Value) : World := ((((w.setCell ⟨B + 1, 0, none⟩ a).setCell ⟨B + 1, 1, none⟩ b).setCell ⟨B + 1, 2, none⟩ c).setCell ⟨B + 1, 3, none⟩ d).setCell ⟨B + 1, 4, none⟩ e
theorem Two.copy {w : World} {B : Nat} {a b c d e r0 r1 r2 r3 r4 : Value} (h : Two w B a b c d e r0 r1 r2 r3 r4) : (copyW w B a b c d e).heap[B + 1]? = some (.cells #[a, b, c, d, e] 60 (0, 0)) := by
  have h1 := blk_set h.r 0 a
  have h2 := blk_set h1 1 b
  have h3 := blk_set h2 2 c
  have h4 := blk_set h3 3 d
  exact blk_set h4 4 e
/-- Writes to the two boxes alone. -/
def TX (B : Nat) (k : Nat) : Prop := k = B ∨ k = B + 1
theorem tx_b {B : Nat} {a w : World} (h : OnlyP (TX B) a w) (i : Nat) (u : Value) : OnlyP (TX B) a (w.setCell ⟨B, i, none⟩ u) := h.trans (.of_only ((Only.refl B w).setCell i u) (.inl rfl))
theorem tx_r {B : Nat} {a w : World} (h : OnlyP (TX B) a w) (i : Nat) (u : Value) : OnlyP (TX B) a (w.setCell ⟨B + 1, i, none⟩ u) := h.trans (.of_only ((Only.refl (B + 1) w).setCell i u) (.inr rfl))
theorem tx_copy {B : Nat} {w0 w : World} (h : OnlyP (TX B) w0 w) (a b c d e : Value) : OnlyP (TX B) w0 (copyW w B a b c d e) := tx_r (tx_r (tx_r (tx_r (tx_r h 0 a) 1 b) 2 c) 3 d) 4 e
/-- The rows of the console, kept apart from the two boxes. -/
def XB (X : Nat → Prop) (B : Nat) (k : Nat) : Prop := X k ∨ TX B k
theorem VR.xb {w : World} {X : Nat → Prop} {A : Option Addr} {c : Nat} {q : List Int} (h : VR w X A c q) : VR w (XB X w.heap.size) A c q := h.wide fun k hk => hk.imp id (fun h => by rcases h with rfl | rfl <;> omega)
theorem VR.unxb {w : World} {X : Nat → Prop} {B : Nat} {A : Option Addr} {c : Nat} {q : List Int} (h : VR w (XB X B) A c q) : VR w X A c q := h.wide fun k hk => .inl (.inl hk)
theorem VR.tx {w w' : World} {X : Nat → Prop} {B : Nat} {A : Option Addr} {c : Nat} {q : List Int} (h : VR w (XB X B) A c q) (k : OnlyP (TX B) w w') : VR w' (XB X B) A c q := h.move fun i hi hn => k.block i hi (fun hx => hn (.inr hx))
set_option maxRecDepth 100000 in
set_option maxHeartbeats 1000000 in
theorem rread0_calls (w : World) (X : Nat → Prop) (A : Option Addr) (len cap came : Nat) (q : List Int) (over : Bool) (out : List Int) (v : Value) (h : VC w X A len cap v came q over out) (hq : q.length ≤ 16) (hw : ∀ x ∈ q, 0 ≤ x ∧ x < 256) :
    Calls Tryd.prog 73 #[v, .int .i64 0] w fun e w' => ∃ v', e = .returned (.tuple #[v', .int .u32 (q.headD 0)]) ∧ VC w' X A len cap v' came q.tail over out ∧ Below w.heap.size w w' := by
  obtain ⟨Ar, cr, Ao, co, rfl, hr, ho⟩ := h
  have HR := Aside0.mk hr
  have HO := Aside0.mk ho
  clear hr ho
  have HB := Aside0.mk (two_below w (.slice A len cap) (.int .i64 (came : Int)) (.slice Ar q.length cr) (.bool over) (.slice Ao out.length co) (.slice none 0 0) (.int .i64 0) (.slice none 0 0) (.bool false) (.slice none 0 0))
  have HT := Aside0.mk (Two.new w (.slice A len cap) (.int .i64 (came : Int)) (.slice Ar q.length cr) (.bool over) (.slice Ao out.length co) (.slice none 0 0) (.int .i64 0) (.slice none 0 0) (.bool false) (.slice none 0 0))
  go_enter Tryd.func73, Tryd.ntmps73
  go_wp2_with fail
  refine (rpop_calls _ (XB X w.heap.size) Ar cr q (HR.out.xb.below HB.out) (by omega)).mono ?_
  rintro e w1 ⟨A', c', rfl, hv, d⟩
  have HV := Aside0.mk hv
  have HO1 := Aside0.mk ((HO.out.xb.below HB.out).drawn d)
  have HT1 := Aside0.mk (HT.out.below d.below)
  have HB1 := Aside0.mk (below_on HB.out d.below)
  clear hv d HR HO HT HB
  have hx : 0 ≤ q.headD 0 ∧ q.headD 0 < 4294967296 := by
    cases q with
    | nil => simp
    | cons x q => have := hw x (by simp); simp; omega
  obtain ⟨x, hxe⟩ : ∃ x, q.headD 0 = x := ⟨_, rfl⟩
  rw [hxe] at hx ⊢
  have HXE := Aside0.mk hxe
  clear hxe hw
  obtain ⟨B, hB⟩ : ∃ B, w.heap.size = B := ⟨_, rfl⟩
  rw [hB] at HT1 HV HO1
  obtain ⟨⟨c0, c1, c2, c3, c4⟩, r0, r1, r2, r3, r4⟩ := HT1.out.cells
  obtain ⟨zb, zr⟩ := HT1.out.frozen
  have HBS := Aside0.mk hB
  rw [hB]
  clear hB
  go_wp2_with fail
  have HT2 := Aside0.mk (HT1.out.set2 (.slice A' (q.length - 1) c'))
  have HC := Aside0.mk HT2.out.copy
  have HX := Aside0.mk (tx_copy (tx_b (OnlyP.refl (TX B) w1) 2 (.slice A' (q.length - 1) c')) (.slice A len cap) (.int .i64 (came : Int)) (.slice A' (q.length - 1) c') (.bool over) (.slice Ao out.length co))
  refine bodyPost_ret (results_cell_row_tmp rfl _ _ (B + 1) 60 _ (0, 0) _ rfl HC.out Tryd.underlying60 rfl (by kernel_rfl)) rfl ?_
  have hl : q.tail.length = q.length - 1 := List.length_tail
  rw [HXE.out]
  refine ⟨_, rfl, ⟨A', c', Ao, co, by rw [hl], (HV.out.tx HX.out).unxb, (HO1.out.tx HX.out).unxb⟩, ?_⟩
  exact HX.out.below (fun k hk => by have := HBS.out; rcases hk with rfl | rfl <;> omega) HB1.out
theorem two_start (w : World) (X : Nat → Prop) (A : Option Addr) (len cap came : Nat) (q : List Int) (over : Bool) (out : List Int) {Ar : Option Addr} {cr : Nat} {Ao : Option Addr} {co : Nat} (hr : VR w X Ar cr q) (ho : VR w X Ao co out) :
    ∀ w2, w2 = ((w.alloc (.cells #[.slice A len cap, .int .i64 (came : Int), .slice Ar q.length cr, .bool over, .slice Ao out.length co] 60)).alloc (.cells #[.slice none 0 0, .int .i64 0, .slice none 0 0, .bool false, .slice none 0 0] 60)) →
    (VR w2 (XB X w.heap.size) Ar cr q ∧ VR w2 (XB X w.heap.size) Ao co out) ∧ Below w.heap.size w w2 ∧ Two w2 w.heap.size (.slice A len cap) (.int .i64 (came : Int)) (.slice Ar q.length cr) (.bool over) (.slice Ao out.length co) (.slice none 0 0) (.int .i64 0) (.slice none 0 0) (.bool false) (.slice none 0 0) := by
  rintro w2 rfl
  have hb := two_below w (.slice A len cap) (.int .i64 (came : Int)) (.slice Ar q.length cr) (.bool over) (.slice Ao out.length co) (.slice none 0 0) (.int .i64 0) (.slice none 0 0) (.bool false) (.slice none 0 0)
  exact ⟨⟨hr.xb.below hb, ho.xb.below hb⟩, hb, Two.new _ _ _ _ _ _ _ _ _ _ _⟩

set_option maxRecDepth 100000 in
set_option maxHeartbeats 1000000 in
theorem rread4_calls (w : World) (X : Nat → Prop) (A : Option Addr) (len cap came : Nat) (q : List Int) (over : Bool) (out : List Int) (v : Value) (h : VC w X A len cap v came q over out) (hq : q.length ≤ 16) :
    Calls Tryd.prog 73 #[v, .int .i64 4] w fun e w' => ∃ v', e = .returned (.tuple #[v', .int .u32 ((if 0 < q.length then 1 else 0) + (if over then 2 else 0))]) ∧ VC w' X A len cap v' came q over out ∧ Below w.heap.size w w' := by
  obtain ⟨Ar, cr, Ao, co, rfl, hr, ho⟩ := h
  have HS := Aside0.mk (two_start w X A len cap came q over out hr ho)
  clear hr ho
  obtain ⟨n, hn⟩ : ∃ n, q.length = n := ⟨_, rfl⟩
  rw [hn] at HS hq ⊢
  have HN := Aside0.mk hn
  clear hn
  obtain ⟨b, hb⟩ : ∃ b, decide (0 < n) = b := ⟨_, rfl⟩
  have hb1 : decide ((0 : Int) < (n : Int)) = b := by rw [← hb]; congr 1; simp
  have hbi : (if 0 < n then (1 : Int) else 0) = if b = true then 1 else 0 := by rw [← hb]; by_cases h : 0 < n <;> simp [h]
  rw [hbi]
  clear hb hbi
  obtain ⟨B, hB⟩ : ∃ B, w.heap.size = B := ⟨_, rfl⟩
  have HBS := Aside0.mk hB
  clear hB
  go_enter Tryd.func73, Tryd.ntmps73
  go_upto_region 1 with fail
  generalize hW : World.alloc (World.alloc w _) _ = w1
  obtain ⟨⟨v1, v2⟩, b1, t1⟩ := HS.out w1 hW.symm
  have V1 := Aside0.mk v1
  have V2 := Aside0.mk v2
  have B1 := Aside0.mk b1
  have T1 := Aside0.mk t1
  clear v1 v2 b1 t1 hW HS
  have hBS := HBS.out
  rw [hBS] at T1 V1 V2 ⊢
  clear hBS
  obtain ⟨⟨c0, c1, c2, c3, c4⟩, r0, r1, r2, r3, r4⟩ := T1.out.cells
  obtain ⟨zb, zr⟩ := T1.out.frozen
  have HC := Aside0.mk T1.out.copy
  have HX := Aside0.mk (tx_copy (OnlyP.refl (TX B) w1) (.slice A len cap) (.int .i64 (came : Int)) (.slice Ar n cr) (.bool over) (.slice Ao out.length co))
  cases b <;> cases over <;> (
    first | have hb2 : ((0 : Int) < (n : Int)) = False := by (have := of_decide_eq_false hb1; simp; omega)
          | have hb2 : ((0 : Int) < (n : Int)) = True := by (have := of_decide_eq_true hb1; simp; omega)
    first | have hb3 : (0 < n) = False := by (have := of_decide_eq_false hb1; simp; omega)
          | have hb3 : (0 < n) = True := by (have := of_decide_eq_true hb1; simp; omega)
    clear hb1
    go_wp2_with fail
    refine bodyPost_ret (results_cell_row_tmp rfl _ _ (B + 1) 60 _ (0, 0) _ rfl HC.out Tryd.underlying60 rfl (by kernel_rfl)) rfl ?_
    refine ⟨_, rfl, ⟨Ar, cr, Ao, co, by rw [HN.out], (V1.out.tx HX.out).unxb, (V2.out.tx HX.out).unxb⟩, ?_⟩
    exact HX.out.below (fun k hk => by have := HBS.out; rcases hk with rfl | rfl <;> omega) B1.out)

set_option maxRecDepth 100000 in
set_option maxHeartbeats 1000000 in
theorem rwrite4_calls (w : World) (X : Nat → Prop) (A : Option Addr) (len cap came : Nat) (q : List Int) (over : Bool) (out : List Int) (v : Value) (x : Int) (h : VC w X A len cap v came q over out) :
    Calls Tryd.prog 77 #[v, .int .i64 4, .int .u32 x] w fun e w' => ∃ v', e = .returned v' ∧ VC w' X A len cap v' came q false out ∧ Below w.heap.size w w' := by
  obtain ⟨Ar, cr, Ao, co, rfl, hr, ho⟩ := h
  have HS := Aside0.mk (two_start w X A len cap came q over out hr ho)
  clear hr ho
  obtain ⟨B, hB⟩ : ∃ B, w.heap.size = B := ⟨_, rfl⟩
  have HBS := Aside0.mk hB
  clear hB
  go_enter Tryd.func77, Tryd.ntmps77
  go_upto_region 1 with fail
  generalize hW : World.alloc (World.alloc w _) _ = w1
  obtain ⟨⟨v1, v2⟩, b1, t1⟩ := HS.out w1 hW.symm
  have V1 := Aside0.mk v1
  have V2 := Aside0.mk v2
  have B1 := Aside0.mk b1
  have T1 := Aside0.mk t1
  clear v1 v2 b1 t1 hW HS
  have hBS := HBS.out
  rw [hBS] at T1 V1 V2 ⊢
  clear hBS
  obtain ⟨⟨c0, c1, c2, c3, c4⟩, r0, r1, r2, r3, r4⟩ := T1.out.cells
  obtain ⟨zb, zr⟩ := T1.out.frozen
  have T2 := Aside0.mk (T1.out.set3 (.bool false))
  have HC := Aside0.mk T2.out.copy
  have HX := Aside0.mk (tx_copy (tx_b (OnlyP.refl (TX B) w1) 3 (.bool false)) (.slice A len cap) (.int .i64 (came : Int)) (.slice Ar q.length cr) (.bool false) (.slice Ao out.length co))
  go_wp2_with fail
  refine bodyPost_ret (results_cell_row rfl _ _ (B + 1) 60 _ (0, 0) _ rfl HC.out Tryd.underlying60 rfl (by kernel_rfl)) rfl ?_
  refine ⟨_, rfl, ⟨Ar, cr, Ao, co, rfl, (V1.out.tx HX.out).unxb, (V2.out.tx HX.out).unxb⟩, ?_⟩
  exact HX.out.below (fun k hk => by have := HBS.out; rcases hk with rfl | rfl <;> omega) B1.out

theorem VR.news {w : World} {X : Nat → Prop} {A : Option Addr} {c : Nat} {q : List Int} (h : VR w X A c q) : (A = none ∧ c = 0 ∧ q = []) ∨ ∃ ad, A = some ad ∧ ∀ j u, (q.map (Value.int .u8))[j]? = some u → w.cell? (ad.add j) = some u := by
  rcases h with h | ⟨ad, rfl, _, _, hc⟩
  · exact .inl h
  · refine .inr ⟨ad, rfl, fun j u hu => ?_⟩
    rw [List.getElem?_map] at hu
    obtain ⟨p, hp, rfl⟩ := Option.map_eq_some_iff.1 hu
    exact hc j p hp

end Go.Proofs.YtdalboofhckobaaDoor

namespace Go.Proofs.YtdalboofhckobaaDoor
open Go Go.RowKit Go.Deep Go.Proofs.YtdalboofhckobaaDoorW.PrintWords
set_option linter.unusedVariables false
set_option linter.unusedSimpArgs false

theorem base_own {w : World} {base b' : Nat} {e : TypeId} {size : Nat} {v : Value} {n : Nat} {xs : List Value} (h : w.ownsRow base e size v n xs) : ∀ k, v.ownBlock = some k → base ≤ k := fun k hk => (h.lt k hk).1

set_option maxRecDepth 100000 in
set_option maxHeartbeats 2000000 in
theorem rwrite0_calls (w : World) (X : Nat → Prop) (hX : ∀ k, X k → k < w.heap.size) (A : Option Addr) (len cap came : Nat) (q : List Int) (over : Bool) (out : List Int) (v : Value) (x : Int) (x0 : 0 ≤ x) (x1 : x < 4294967296) (hol : out.length ≤ 65536) (h : VC w X A len cap v came q over out) :
    Calls Tryd.prog 77 #[v, .int .i64 0, .int .u32 x] w fun e w' => ∃ v', e = .returned v' ∧ VC w' X A len cap v' came q over (out ++ [x % 256]) ∧ Below w.heap.size w w' := by
  obtain ⟨Ar, cr, Ao, co, rfl, hr, ho⟩ := h
  have HS := Aside0.mk (two_start w X A len cap came q over out hr ho)
  clear hr ho
  obtain ⟨i0, hi, hz0, hz1, hz2⟩ := info_parts (show (Tryd.prog.info? 5).map (fun i => (i.zero, i.size, i.bytes)) = some (some (.int .u8 0), 1, 1) by kernel_rfl)
  obtain ⟨B, hB⟩ : ∃ B, w.heap.size = B := ⟨_, rfl⟩
  have HBS := Aside0.mk hB
  rw [hB] at hX
  clear hB
  obtain ⟨y, hy⟩ : ∃ y, x % 256 = y := ⟨_, rfl⟩
  have hw1 : x.tmod 256 = y := by rw [← hy, Int.tmod_eq_emod_of_nonneg x0]
  have hy0 : 0 ≤ y ∧ y < 256 := by omega
  rw [hy]
  clear hy
  go_enter Tryd.func77, Tryd.ntmps77
  go_upto_region 1 with fail
  generalize hW : World.alloc (World.alloc w _) _ = w1
  obtain ⟨⟨v1, v2⟩, b1, t1⟩ := HS.out w1 hW.symm
  have V1 := Aside0.mk v1
  have V2 := Aside0.mk v2
  have B1 := Aside0.mk b1
  have T1 := Aside0.mk t1
  clear v1 v2 b1 t1 hW HS
  have hBS := HBS.out
  rw [hBS] at T1 V1 V2 ⊢
  clear hBS
  have hsz : B + 2 ≤ w1.heap.size := by have := blk_lt T1.out.r; omega
  have HXB : Aside0 (∀ k, XB X B k → k < w1.heap.size) := ⟨fun k hk => by rcases hk with h | h | h; have := hX k h; omega; omega; omega⟩
  have hown0 : (w1.alloc (.cells #[] 5)).ownsRow w1.heap.size 5 1 (.slice (some ⟨w1.heap.size, 0, none⟩) 0 0) 0 [] := by
    have := World.ownsRow_lit (base := w1.heap.size) (e := 5) (size := 1) w1 #[] 0 (Nat.le_refl _) (by decide) rfl
    simpa using this
  have HO := Aside0.mk hown0
  have hB0 := Aside0.mk (below_alloc (Below.refl w1.heap.size w1) (.cells #[] 5))
  clear hown0 hX
  have fin : ∀ (v2 : Value) (w2 : World), w2.ownsRow w1.heap.size 5 1 v2 (out.length + 1) ((out ++ [y]).map (Value.int .u8)) → Below w1.heap.size w1 w2 → ∃ g c, v2 = .slice (some ⟨g, 0, none⟩) (out.length + 1) c ∧ VR w2 (XB X B) (some ⟨g, 0, none⟩) c (out ++ [y]) := by
    intro v2 w2 h1 h2
    obtain ⟨g, c, rfl⟩ := ownsRow_succ h1
    obtain ⟨A', c', he, hv⟩ := VR.of_own (X := XB X B) (q := out ++ [y]) (by simpa using h1) HXB.out
    injection he with e1 e2 e3
    subst e1 e3
    exact ⟨g, c, rfl, hv⟩
  have FIN := Aside0.mk fin
  clear fin
  rcases V2.out.news with ⟨rfl, rfl, rfl⟩ | ⟨ad, rfl, hnews⟩
  · have hc0 : (w1.alloc (.cells #[] 5)).cell? ⟨B, 4, none⟩ = some (.slice none 0 0) := (T1.out.below (below_alloc (Below.refl _ _) _)).cells.1.2.2.2.2
    go_wp2_with (first
      | (at_builtin; refine wpList_append_own_none rfl (.tmp 9) (.tmp 11) 29 rfl w1.heap.size 5 i0 1 Tryd.underlying29 hi _ 0 [] rfl HO.out rfl ?_)
      | (at_builtin; refine wpList_append_own _ rfl (.tmp 12) (.tmp 16) 29 rfl w1.heap.size 5 i0 (.int .u8 0) 1 1 Tryd.underlying29 hi hz0 hz1 hz2 rfl (by decide) _ 0 [] rfl (HO.out.alloc _) ⟨w1.heap.size + 1, 0, none⟩ 1 1 [.int .u8 y] rfl rfl (by have := cell_one_new (w1.alloc (.cells #[] 5)) (.int .u8 y) 5; rwa [World.size_alloc] at this) (by simp [Value.oneCell']) (by simp only [maxLen]; omega) (by omega) (by simp; omega) ?_; intro v2 w2 hown2 hgrow2 _; have hb2 := Aside0.mk ((below_alloc hB0.out (.cells #[.int .u8 y] 5)).grown hgrow2 (below_alloc hB0.out (.cells #[.int .u8 y] 5)).size (fun k hk => ((HO.out.alloc (.cells #[.int .u8 y] 5)).lt k hk).1)); obtain ⟨g, c2, rfl, hv2⟩ := FIN.out v2 w2 (by simpa using hown2) hb2.out; have HV2 := Aside0.mk hv2; have T2 := Aside0.mk (T1.out.below hb2.out); obtain ⟨⟨c0, c1, c2', c3, c4⟩, r0, r1, r2, r3, r4⟩ := T2.out.cells; obtain ⟨zb, zr⟩ := T2.out.frozen; clear hown2 hgrow2 hv2))
    have T3 := Aside0.mk (T2.out.set4 (.slice (some ⟨g, 0, none⟩) (0 + 1) c2))
    have HC := Aside0.mk T3.out.copy
    have HX := Aside0.mk (tx_copy (tx_b (OnlyP.refl (TX B) w2) 4 (.slice (some ⟨g, 0, none⟩) (0 + 1) c2)) (.slice A len cap) (.int .i64 (came : Int)) (.slice Ar q.length cr) (.bool over) (.slice (some ⟨g, 0, none⟩) (0 + 1) c2))
    refine bodyPost_ret (results_cell_row rfl _ _ (B + 1) 60 _ (0, 0) _ rfl HC.out Tryd.underlying60 rfl (by kernel_rfl)) rfl ?_
    refine ⟨_, rfl, ⟨Ar, cr, _, _, by simp, ((V1.out.below hb2.out).tx HX.out).unxb, (HV2.out.tx HX.out).unxb⟩, ?_⟩
    exact HX.out.below (fun k hk => by have := HBS.out; rcases hk with rfl | rfl <;> omega) (below_on B1.out hb2.out)
  · have hc0 : (w1.alloc (.cells #[] 5)).cell? ⟨B, 4, none⟩ = some (.slice (some ad) out.length co) := (T1.out.below (below_alloc (Below.refl _ _) _)).cells.1.2.2.2.2
    have HN := Aside0.mk (fun o j u (hu : (out.map (Value.int .u8))[j]? = some u) => pw_cell_below (below_alloc (Below.refl w1.heap.size w1) o) (hnews j u hu))
    clear hnews
    go_wp2_with (first
      | (at_builtin; refine wpList_append_own _ rfl (.tmp 9) (.tmp 11) 29 rfl w1.heap.size 5 i0 (.int .u8 0) 1 1 Tryd.underlying29 hi hz0 hz1 hz2 rfl (by decide) _ 0 [] rfl HO.out ad out.length co (out.map (Value.int .u8)) rfl (by simp) (HN.out _) (by intro u hu; obtain ⟨p, _, rfl⟩ := List.mem_map.1 hu; rfl) (by simp only [maxLen]; omega) (by omega) (by simp) ?_; intro v1 wa hown1 hgrow1 _; simp only [Nat.zero_add, List.nil_append] at hown1; have hb1 := Aside0.mk (hB0.out.grown hgrow1 hB0.out.size (fun k hk => (HO.out.lt k hk).1)); have HO1 := Aside0.mk hown1; clear hown1 hgrow1)
      | (at_builtin; refine wpList_append_own _ rfl (.tmp 12) (.tmp 16) 29 rfl w1.heap.size 5 i0 (.int .u8 0) 1 1 Tryd.underlying29 hi hz0 hz1 hz2 rfl (by decide) _ out.length (out.map (Value.int .u8)) rfl (HO1.out.alloc _) ⟨wa.heap.size, 0, none⟩ 1 1 [.int .u8 y] rfl rfl (cell_one_new _ _ _) (by simp [Value.oneCell']) (by simp only [maxLen]; omega) (by omega) (by have := hb1.out.size; simp; omega) ?_; intro v2 w2 hown2 hgrow2 _; have hb2 := Aside0.mk ((below_alloc hb1.out (.cells #[.int .u8 y] 5)).grown hgrow2 (below_alloc hb1.out (.cells #[.int .u8 y] 5)).size (fun k hk => ((HO1.out.alloc (.cells #[.int .u8 y] 5)).lt k hk).1)); obtain ⟨g, c2, rfl, hv2⟩ := FIN.out v2 w2 (by simpa using hown2) hb2.out; have HV2 := Aside0.mk hv2; have T2 := Aside0.mk (T1.out.below hb2.out); obtain ⟨⟨c0, c1, c2', c3, c4⟩, r0, r1, r2, r3, r4⟩ := T2.out.cells; obtain ⟨zb, zr⟩ := T2.out.frozen; clear hown2 hgrow2 hv2))
    have T3 := Aside0.mk (T2.out.set4 (.slice (some ⟨g, 0, none⟩) (out.length + 1) c2))
    have HC := Aside0.mk T3.out.copy
    have HX := Aside0.mk (tx_copy (tx_b (OnlyP.refl (TX B) w2) 4 (.slice (some ⟨g, 0, none⟩) (out.length + 1) c2)) (.slice A len cap) (.int .i64 (came : Int)) (.slice Ar q.length cr) (.bool over) (.slice (some ⟨g, 0, none⟩) (out.length + 1) c2))
    refine bodyPost_ret (results_cell_row rfl _ _ (B + 1) 60 _ (0, 0) _ rfl HC.out Tryd.underlying60 rfl (by kernel_rfl)) rfl ?_
    refine ⟨_, rfl, ⟨Ar, cr, _, _, by simp, ((V1.out.below hb2.out).tx HX.out).unxb, (HV2.out.tx HX.out).unxb⟩, ?_⟩
    exact HX.out.below (fun k hk => by have := HBS.out; rcases hk with rfl | rfl <;> omega) (below_on B1.out hb2.out)
end Go.Proofs.YtdalboofhckobaaDoor

namespace Go.Proofs.YtdalboofhckobaaDoor
open Go Go.RowKit Go.Deep Go.Proofs.YtdalboofhckobaaDoorW.PrintWords
set_option linter.unusedVariables false
set_option linter.unusedSimpArgs false

set_option maxRecDepth 100000 in
set_option maxHeartbeats 4000000 in
theorem rup_calls (w : World) (X : Nat → Prop) (hX : ∀ k, X k → k < w.heap.size) (A : Option Addr) (cap came : Nat) (al : List (Int × Int)) (q : List Int) (over : Bool) (out : List Int) (v : Value) (t : Int) (hll : al.length ≤ 256) (hlc : came ≤ al.length) (hA : AR w A al) (h : VC w X A al.length cap v came q over out) (hq : q.length ≤ 16) :
    Calls Tryd.prog 52 #[v, .int .u64 t] w fun e w' => ∃ v', e = .returned v' ∧ VC w' X A al.length cap v' (upL t (al.drop came) (came, q, over)).1 (upL t (al.drop came) (came, q, over)).2.1 (upL t (al.drop came) (came, q, over)).2.2 out ∧ Below w.heap.size w w' := by
  obtain ⟨R, hR⟩ : ∃ R, upL t (al.drop came) (came, q, over) = R := ⟨_, rfl⟩
  rw [hR]
  have HRR := Aside0.mk hR
  obtain ⟨Ar, cr, Ao, co, rfl, hr, ho⟩ := h
  obtain ⟨len, hal⟩ : ∃ n, al.length = n := ⟨_, rfl⟩
  rw [hal] at hll hlc ⊢
  have HL := Aside0.mk hal
  have HS := Aside0.mk (two_start w X A len cap came q over out hr ho)
  have HA := Aside0.mk hA
  clear hr ho hR hal hA
  obtain ⟨B, hB⟩ : ∃ B, w.heap.size = B := ⟨_, rfl⟩
  have HBS := Aside0.mk hB
  rw [hB] at hX
  have HXX := Aside0.mk hX
  clear hB hX
  go_enter Tryd.func52, Tryd.ntmps52
  go_upto_region 1 with fail
  generalize hW : World.alloc (World.alloc w _) _ = w1
  obtain ⟨⟨v1, v2⟩, b1, t1⟩ := HS.out w1 hW.symm
  have V1 := Aside0.mk v1
  have V2 := Aside0.mk v2
  have B1 := Aside0.mk b1
  have T1 := Aside0.mk t1
  clear v1 v2 b1 t1 hW HS
  have hBS := HBS.out
  rw [hBS] at T1 V1 V2 ⊢
  clear hBS
  have hc1 := T1.out.cells.1.2.1
  go_wp2_with fail
  go_loopg [5] (len + 1 - came) (fun g i wr => ∃ (k : Nat) (q' : List Int) (o' : Bool) (Ar' : Option Addr) (cr' : Nat), g + k = len + 1 ∧ k ≤ len ∧ q'.length ≤ 16 ∧ i = .int .i64 (k : Int) ∧ Aside0 (Two wr B (.slice A len cap) (.int .i64 (k : Int)) (.slice Ar' q'.length cr') (.bool o') (.slice Ao out.length co) (.slice none 0 0) (.int .i64 0) (.slice none 0 0) (.bool false) (.slice none 0 0)) ∧ Aside0 (VR wr (XB X B) Ar' cr' q') ∧ Aside0 (VR wr (XB X B) Ao co out) ∧ Aside0 (Below w.heap.size w wr) ∧ Aside0 (upL t (al.drop k) (k, q', o') = R))
  case atStart => exact ⟨came, q, over, Ar, cr, by omega, by omega, hq, rfl, T1, V1, V2, B1, HRR⟩
  case round =>
    obtain ⟨k, q', o', Ar', cr', hk, hkn, hq', rfl, ht, hv, ho, hb, hu⟩ := hrel
    obtain ⟨wo, rfl⟩ : ∃ wo : World, wo = wr := ⟨_, rfl⟩
    clear V1 V2 B1 T1 hc1
    obtain ⟨⟨c0, c1, c2, c3, c4⟩, r0, r1, r2, r3, r4⟩ := ht.out.cells
    obtain ⟨zb, zr⟩ := ht.out.frozen
    by_cases hlt : k < len
    · have hlt' : ((k : Int) < (len : Int)) = True := by simp; omega
      have hkl : k < al.length := by rw [HL.out]; exact hlt
      have hp := List.getElem?_eq_getElem hkl
      have hdrop : al.drop k = al[k] :: al.drop (k + 1) := List.drop_eq_getElem_cons hkl
      obtain ⟨x, hx, a0, a1⟩ := (show AR wo A al from fun i p hp => by obtain ⟨x, hx, h1, h2⟩ := HA.out i p hp; exact ⟨x, hx, pw_cell_below hb.out h1, pw_cell_below hb.out h2⟩) k _ hp
      subst hx
      rw [add_field _ _ 1 (by omega)] at a1
      generalize al[k] = p at hp hdrop a0 a1
      obtain ⟨tk, bk⟩ := p
      simp only at a0 a1
      have hu1 := hu.out
      rw [hdrop] at hu1
      simp only [upL] at hu1
      clear hdrop hp hu
      by_cases hle : tk ≤ t
      · rw [if_pos hle] at hu1
        have hgt : (t < tk) = False := by simp; omega
        have HU := Aside0.mk hu1
        have hbig : B + 2 ≤ wo.heap.size := by have := blk_lt ht.out.r; omega
        have HBO : Aside0 (∀ w', Below wo.heap.size wo w' → ∀ k, XB X B k → k < w'.heap.size) := ⟨fun w' h k hk => by have := h.size; rcases hk with h | h | h; have := HXX.out k h; omega; omega; omega⟩
        have hP : ∀ w', Below wo.heap.size wo w' → Calls Tryd.prog 79 #[.slice Ar' q'.length cr', .int .u8 bk] w' fun e w'' => ∃ A' c', e = .returned (.tuple #[.slice A' (qpush q' bk).length c', .bool (decide (q'.length < 16))]) ∧ VR w'' (XB X B) A' c' (qpush q' bk) ∧ Below w'.heap.size w' w'' := fun w' hw' => rpush_calls w' (XB X B) Ar' cr' q' bk (hv.out.below hw') (HBO.out w' hw')
        have hq2l := qpush_len q' bk hq'
        obtain ⟨q2, hq2⟩ : ∃ q2, qpush q' bk = q2 := ⟨_, rfl⟩
        obtain ⟨b, hb16⟩ : ∃ b, decide (q'.length < 16) = b := ⟨_, rfl⟩
        rw [hq2, hb16] at hP HU
        rw [hq2] at hq2l
        have HP := Aside0.mk hP
        clear hP hq2 hb16
        obtain ⟨m, hm⟩ : ∃ m, q'.length = m := ⟨_, rfl⟩
        rw [hm] at HP c2
        clear hm
        clear hu1 hle zb zr r0 r1 r2 r3 r4 c1 c3 c4
        go_wp2_with fail
        go_region_held3 (fun w' => w'.cell? ⟨B, 2, none⟩ = some (.slice Ar' m cr') ∧ w'.cell? ⟨B, 0, none⟩ = some (.slice (some x) len cap) ∧ w'.cell? ⟨(x.add (k * 2)).block, (x.add (k * 2)).off + 1, none⟩ = some (.int .u8 bk) ∧ Below wo.heap.size wo w')
          (first | exact ⟨c2, c0, a1, Below.drew (Below.refl _ _)⟩ | (have hbb := below_on hbo hbn; exact ⟨pw_cell_below hbb c2, pw_cell_below hbb c0, pw_cell_below hbb a1, hbb⟩))
          (first
            | (go_at_call 79; go_split_ands; rename Below _ _ _ => hbo; refine (HP.out _ hbo).mono ?_; rintro e w' ⟨A2, cc2, rfl, hv2, hbn⟩))
        have hbw : Below wo.heap.size wo w' := by go_split_ands; assumption
        have T2 := Aside0.mk (ht.out.below hbw)
        have V2 := Aside0.mk hv2
        have O2 := Aside0.mk (ho.out.below hbw)
        have B2 := Aside0.mk (below_on hb.out hbw)
        obtain ⟨w2, hw2⟩ : ∃ w2, w' = w2 := ⟨_, rfl⟩
        rw [hw2] at T2 V2 O2 B2 ⊢
        clear hbw hw2
        (repeat (first | clear hv2 | clear hbn | clear hbo))
        obtain ⟨⟨c0, c1, c2, c3, c4⟩, r0, r1, r2, r3, r4⟩ := T2.out.cells
        obtain ⟨zb, zr⟩ := T2.out.frozen
        clear r0 r1 r2 r3 r4 zr hv ho hb ht
        have T3 := Aside0.mk (((T2.out.set2 (.slice A2 q2.length cc2)).set3 (.bool (o' || !b))).set1 (.int .i64 ((k + 1 : Nat) : Int)))
        have HX := Aside0.mk (tx_b (tx_b (tx_b (OnlyP.refl (TX B) w2) 2 (.slice A2 q2.length cc2)) 3 (.bool (o' || !b))) 1 (.int .i64 ((k + 1 : Nat) : Int)))
        have V3 := Aside0.mk (V2.out.tx HX.out)
        have O3 := Aside0.mk (O2.out.tx HX.out)
        have B3 := Aside0.mk (HX.out.below (fun k hk => by have := HBS.out; rcases hk with rfl | rfl <;> omega) B2.out)
        rw [show ((k + 1 : Nat) : Int) = (k : Int) + 1 by omega] at T3 V3 O3 B3
        clear V2 O2 B2 HX T2
        cases o' <;> cases b <;> (
          go_wp2_with fail
          go_roundg (gk - 1)
          (case measure => omega)
          (case rel => exact ⟨k + 1, q2, _, A2, cc2, by omega, by omega, hq2l, by congr 1, ⟨by simpa using T3.out⟩, ⟨by simpa using V3.out⟩, ⟨by simpa using O3.out⟩, ⟨by simpa using B3.out⟩, ⟨by simpa using HU.out⟩⟩))
      · rw [if_neg hle] at hu1
        have hgt : (t < tk) = True := by simp; omega
        have HC := Aside0.mk ht.out.copy
        have HX := Aside0.mk (tx_copy (OnlyP.refl (TX B) wo) (.slice (some x) len cap) (.int .i64 (k : Int)) (.slice Ar' q'.length cr') (.bool o') (.slice Ao out.length co))
        have HU := Aside0.mk hu1
        clear hu1
        go_wp2_with fail
        refine bodyPost_ret (results_cell_row rfl _ _ (B + 1) 60 _ (0, 0) _ rfl HC.out Tryd.underlying60 rfl (by kernel_rfl)) rfl ?_
        rw [← HU.out]
        refine ⟨_, rfl, ⟨Ar', cr', Ao, co, rfl, (hv.out.tx HX.out).unxb, (ho.out.tx HX.out).unxb⟩, ?_⟩
        exact HX.out.below (fun k hk => by have := HBS.out; rcases hk with rfl | rfl <;> omega) hb.out
    · obtain rfl : k = len := by omega
      have hlt' : ((k : Int) < (k : Int)) = False := by simp
      have hu1 := hu.out
      rw [List.drop_of_length_le (by rw [HL.out]; exact Nat.le_refl _)] at hu1
      simp only [upL] at hu1
      have HC := Aside0.mk ht.out.copy
      have HX := Aside0.mk (tx_copy (OnlyP.refl (TX B) wo) (.slice A k cap) (.int .i64 (k : Int)) (.slice Ar' q'.length cr') (.bool o') (.slice Ao out.length co))
      have HU := Aside0.mk hu1
      clear hu1 hu
      go_wp2_with fail
      refine bodyPost_ret (results_cell_row rfl _ _ (B + 1) 60 _ (0, 0) _ rfl HC.out Tryd.underlying60 rfl (by kernel_rfl)) rfl ?_
      rw [← HU.out]
      refine ⟨_, rfl, ⟨Ar', cr', Ao, co, rfl, (hv.out.tx HX.out).unxb, (ho.out.tx HX.out).unxb⟩, ?_⟩
      exact HX.out.below (fun k hk => by have := HBS.out; rcases hk with rfl | rfl <;> omega) hb.out
end Go.Proofs.YtdalboofhckobaaDoor
