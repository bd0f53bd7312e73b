/- The table's Clear, Top. -/
import Derived.Test.YtbphciahojjnpaaHotC
import Derived.Laws.Rows
import Derived.Laws.Tables
import Derived.Deep.MidRow
namespace Go.Proofs.Ytbphciahojjnpaa
open Go Go.RowKit Go.Deep Go.Proofs.YtbphciahojjnpaaW.PrintWords Go.Proofs.Ytbphciahojjnpaa.HotPlain
set_option linter.unusedVariables false
set_option linter.unusedSimpArgs false

theorem only_setRow {B : Nat} (w : World) (cs : Array Value) : Only B w (w.setRow B cs) := ⟨rfl, rfl, rfl, by simp, fun k _ hk => setRow_other w B k cs hk⟩

set_option maxRecDepth 100000 in
theorem clear_nil (w : World) : Calls Try.prog 51 #[.pointer none] w fun e w' => e = .returned (.tuple #[]) ∧ Drawn0 w w' := by
  go_enter Try.func51, Try.ntmps51
  go_wp2
  go_end0
  exact ⟨rfl, Drawn0.refl _⟩

set_option maxRecDepth 100000 in
theorem tclear_calls (w : World) (B : Nat) (W : List (Int × Int)) (h : TB w B W) : Calls Try.prog 51 #[.pointer (some ⟨B, 0, none⟩)] w fun e w' => e = .returned (.tuple #[]) ∧ TB w' B [] ∧ Only B w w' := by
  obtain ⟨g, l, h, r⟩ := h
  have hs := run_storeCells_from (P := Try.prog) B 111 Try.zeroCells111.toList 0 _ w h.1 (by rw [zero_cells]; simp only [hcells, List.length_append, pairs_length, Nat.zero_add, List.size_toArray]; simp [h.2]) (by rw [zero_cells]; intro v hv; simp [hcells] at hv; rcases hv with ⟨_, _, rfl⟩ | rfl <;> rfl)
  rw [List.take_zero, List.nil_append, Array.toArray_toList] at hs
  have HT := Aside0.mk (tb_zero (setRow_heap w B _ (hcells (List.replicate 128 (0, 0)) 0) _ _ h.1))
  rw [← zero_cells] at HT
  clear h r
  go_enter Try.func51, Try.ntmps51
  go_wp2
  go_end0
  exact ⟨rfl, HT.out, only_setRow _ _⟩

set_option maxRecDepth 100000 in
theorem top_nil (w : World) : Calls Try.prog 49 #[.pointer none] w fun e w' => e = .returned (.tuple #[.int .u32 0, .int .u32 0]) ∧ Drawn0 w w' := by
  go_enter Try.func49, Try.ntmps49
  go_wp2
  go_ret2
  exact ⟨rfl, Drawn0.refl _⟩

/-- The best of two places. -/
def btake (b p : Int × Int) : Int × Int := if b.2 < p.2 then p else if p.2 = b.2 ∧ 0 < p.2 ∧ p.1 < b.1 then p else b
/-- The best of the first places. -/
def bupto (l : Tab) (k : Nat) : Int × Int := (l.take k).foldl btake (0, 0)
theorem bupto_succ (l : Tab) (k : Nat) (h : k < l.length) : bupto l (k + 1) = btake (bupto l k) (pcA l k, nA l k) := by
  unfold bupto
  rw [List.take_succ_eq_append_getElem h, List.foldl_append]
  simp [pcA, nA, List.getD_eq_getElem?_getD, h]

theorem run_idx (w : World) (l : Tab) (hl : l.length = 128) (k : Nat) (hk : k < 128) : (Instr.index 109 (.agg (l.flatMap fun p => [Value.int .u32 p.1, Value.int .u32 p.2]).toArray) (.int .i64 (k : Int))).run Try.prog w = .ok (.agg #[.int .u32 (pcA l k), .int .u32 (nA l k)]) w := by
  have h0 := (pairs_get l k (by omega)).1
  have h1 := (pairs_get l k (by omega)).2
  have he : (Try.prog.info? 108).map (fun i => (i.zero, i.size, i.bytes)) = some (some (.agg #[.int .u32 0, .int .u32 0]), 2, 8) := by kernel_rfl
  obtain ⟨i, hi, hz⟩ := Option.map_eq_some_iff.1 he
  simp only [Prod.mk.injEq] at hz
  obtain ⟨hz0, hz1, hz2⟩ := hz
  have hk' : (0 : Int) ≤ (k : Int) ∧ (k : Int) < ((128 : Nat) : Int) := by omega
  have ha : (isAgg 108).run Try.prog w = .ok true w := by
    unfold isAgg
    rw [Sem.run_bind, run_underlying Try.underlying108 w]
    rfl
  simp only [Instr.index, Sem.run_bind, Sem.run_pure, Result.andThen_ok, run_underlying Try.underlying109, asIntOf]
  rw [if_pos hk']
  have e : ((l.flatMap fun p => [Value.int .u32 p.1, Value.int .u32 p.2]).toArray.extract (((k : Int)).toNat * 2) (((k : Int)).toNat * 2 + 2)) = #[.int .u32 (pcA l k), .int .u32 (nA l k)] := by
    rw [Int.toNat_natCast]
    apply Array.ext'
    simp only [List.extract_toArray]
    have hlen := pairs_length l
    apply List.ext_getElem?
    intro i
    rw [List.extract_eq_take_drop, show k * 2 + 2 - k * 2 = 2 by omega]
    match i with
    | 0 => simp [List.getElem?_take, List.getElem?_drop, h0]
    | 1 => simp [List.getElem?_take, List.getElem?_drop, h1]
    | i + 2 => rw [List.getElem?_take, if_neg (by omega)]; rfl
  have hsz : (sizeOf 108).run Try.prog w = .ok 2 w := by simp [sizeOf, typeInfo, hi, hz1, go_sem]
  simp only [hsz, Result.andThen_ok, Sem.run_bind, part, ha]
  simp only [if_true, Sem.run_bind, hsz, Result.andThen_ok, Sem.run_pure, e]

set_option maxRecDepth 100000 in
set_option maxHeartbeats 1000000 in
theorem top_calls (w : World) (B : Nat) (l : Tab) (m : Int) (h : IsH w B l m) (hr : ∀ i, 0 ≤ nA l i ∧ nA l i < 4294967296) : Calls Try.prog 49 #[.pointer (some ⟨B, 0, none⟩)] w fun e w' => e = .returned (.tuple #[.int .u32 (bupto l 128).1, .int .u32 (bupto l 128).2]) ∧ Below w.heap.size w w' := by
  have H := Aside0.mk h
  have hlen := h.2
  have hi : (Try.prog.info? 109).map (·.size) = some (l.flatMap fun p => [Value.int .u32 p.1, Value.int .u32 p.2]).length := by
    rw [pairs_length, hlen]; kernel_rfl
  have hrg : ∀ o, (w.alloc o).rangeAt B 0 (l.flatMap fun p => [Value.int .u32 p.1, Value.int .u32 p.2]) := by
    intro o j v hv
    have hb := below_alloc (Below.refl w.heap.size w) o
    rw [Nat.zero_add, blk_cell (h.below hb).1]
    simp only [hcells, List.getElem?_toArray]
    rw [List.getElem?_append_left (List.getElem?_eq_some_iff.1 hv).1]
    exact hv
  have HI := Aside0.mk hi
  have HG := Aside0.mk hrg
  clear h hi hrg
  go_enter Try.func49, Try.ntmps49
  go_wp2_with (refine wpList_load_mid rfl 109 (.tmp 12) rfl B 0 rfl (l.flatMap fun p => [Value.int .u32 p.1, Value.int .u32 p.2]) _ (HG.out _) Try.underlying109 rfl HI.out ?_)
  have HL := Aside0.mk (run_idx (l := l) (hl := hlen))
  go_loopg [14] 128 (fun k i wr => ∃ (j : Nat) (b1 b2 : Int), k + j = 128 ∧ i = .int .i64 (j : Nat) ∧ Aside0 ((b1, b2) = bupto l j) ∧ Aside0 (wr.heap[w.heap.size]? = some (.cells #[.int .u32 b1, .int .u32 b2] 108)) ∧ Aside0 (Below w.heap.size w wr))
  case atStart => exact ⟨0, 0, 0, rfl, rfl, ⟨rfl⟩, ⟨blk_new w _⟩, ⟨below_alloc (Below.refl _ _) _⟩⟩
  case round =>
    obtain ⟨j, b1, b2, hk, rfl, hb, hc, hw⟩ := hrel
    obtain ⟨wo, rfl⟩ : ∃ wo : World, wo = wr := ⟨_, rfl⟩
    by_cases hj : j < 128
    · obtain ⟨x, hx⟩ : ∃ x, pcA l j = x := ⟨_, rfl⟩
      obtain ⟨y, hy⟩ : ∃ y, nA l j = y := ⟨_, rfl⟩
      have hidx := fun w => HL.out w j hj
      have hs := Aside0.mk (bupto_succ l j (by omega))
      have y0 := (hr j).1
      rw [hx, hy] at hidx hs
      rw [hy] at y0
      have lt1 := blk_lt hc.out
      have e0 : wo.cell? ⟨w.heap.size, 0, none⟩ = some (.int .u32 b1) := (blk_cell hc.out 0).trans rfl
      have e1 : wo.cell? ⟨w.heap.size, 1, none⟩ = some (.int .u32 b2) := (blk_cell hc.out 1).trans rfl
      have f0 : ∀ i, wo.frozen? ⟨w.heap.size, i, none⟩ = false := fun i => blk_frozen hc.out i
      clear hx hy HL
      have HC2 := Aside0.mk (blk_below (blk_set (blk_set hc.out 0 (.int .u32 x)) 1 (.int .u32 y)) (below_alloc (Below.refl _ _) (.cells #[.int .u32 x, .int .u32 y] 108)))
      have HW2 := Aside0.mk (below_alloc ((hw.out.setCell (p := ⟨w.heap.size, 0, none⟩) (Nat.le_refl _) (.int .u32 x)).setCell (p := ⟨w.heap.size, 1, none⟩) (Nat.le_refl _) (.int .u32 y)) (.cells #[.int .u32 x, .int .u32 y] 108))
      have HC1 := Aside0.mk (blk_below hc.out (below_alloc (Below.refl _ _) (.cells #[.int .u32 x, .int .u32 y] 108)))
      have HW1 := Aside0.mk (below_alloc hw.out (.cells #[.int .u32 x, .int .u32 y] 108))
      by_cases c1 : b2 < y
      · have HR := Aside0.mk (show (x, y) = bupto l (j + 1) from by rw [hs.out, ← hb.out, btake, if_pos c1])
        go_wp2
        go_roundg (gk - 1)
        case measure => omega
        case rel => exact ⟨j + 1, x, y, by omega, rfl, HR, HC2, HW2⟩
      · by_cases c2 : y = b2
        · subst c2
          by_cases c3 : 0 < y
          · by_cases c4 : x < b1
            · have HR := Aside0.mk (show (x, y) = bupto l (j + 1) from by rw [hs.out, ← hb.out, btake, if_neg c1, if_pos ⟨rfl, c3, c4⟩])
              go_wp2
              go_roundg (gk - 1)
              case measure => omega
              case rel => exact ⟨j + 1, x, y, by omega, rfl, HR, HC2, HW2⟩
            · have HR := Aside0.mk (show (b1, y) = bupto l (j + 1) from by rw [hs.out, ← hb.out, btake, if_neg c1, if_neg (fun h => c4 h.2.2)])
              go_wp2
              go_roundg (gk - 1)
              case measure => omega
              case rel => exact ⟨j + 1, b1, y, by omega, rfl, HR, HC1, HW1⟩
          · have HR := Aside0.mk (show (b1, y) = bupto l (j + 1) from by rw [hs.out, ← hb.out, btake, if_neg c1, if_neg (fun h => c3 h.2.1)])
            go_wp2
            go_roundg (gk - 1)
            case measure => omega
            case rel => exact ⟨j + 1, b1, y, by omega, rfl, HR, HC1, HW1⟩
        · have c2' : (y == b2) = false := beq_eq_false_iff_ne.2 c2
          have C2 := Aside0.mk c2
          clear c2
          have HR := Aside0.mk (show (b1, b2) = bupto l (j + 1) from by rw [hs.out, ← hb.out, btake, if_neg c1, if_neg (fun h => C2.out h.1)])
          go_wp2
          go_roundg (gk - 1)
          case measure => omega
          case rel => exact ⟨j + 1, b1, b2, by omega, rfl, HR, HC1, HW1⟩
    · obtain rfl : j = 128 := by omega
      have e0 : wo.cell? ⟨w.heap.size, 0, none⟩ = some (.int .u32 b1) := (blk_cell hc.out 0).trans rfl
      have e1 : wo.cell? ⟨w.heap.size, 1, none⟩ = some (.int .u32 b2) := (blk_cell hc.out 1).trans rfl
      go_wp2
      go_quiet (fail)
      all_goals go_wp2
      all_goals go_ret2
      all_goals (rw [← hb.out]; exact ⟨rfl, pw_below_drewN hw.out _⟩)

end Go.Proofs.Ytbphciahojjnpaa
