/- A feed: is the program awake? -/
import Derived.Test.YtdalboofhckobabFeedMerge
import Derived.Test.YtdalboofhckobabPFeedMergesx
import Derived.BigQuiet
namespace Go.Proofs.Ytdalboofhckobab
open Go Go.RowKit Go.Conc Go.Proofs.YtdalboofhckobabW.PrintWords Go.Proofs.Ytdalboofhckobab.PFeedMerges
set_option linter.unusedVariables false
set_option linter.unusedSimpArgs false

/-- A row as pairs. -/
def pairs (l : List S40) : List (Int × Int) := l.map fun x => (x.f0, x.f1)
theorem pairs_length (l : List S40) : (pairs l).length = l.length := by simp [pairs]
theorem AR.of_C {w : World} {A : Option Addr} {l : List S40} (h : Kd.C k40 w A l.length l) : AR w A (pairs l) := by
  intro i p hp
  rw [pairs, List.getElem?_map] at hp
  cases hx : l[i]? with
  | none => rw [hx] at hp; cases hp
  | some x =>
    rw [hx] at hp
    have hp' : p = (x.f0, x.f1) := (Option.some.inj hp).symm
    subst hp'
    have hi : i < l.length := (List.getElem?_eq_some_iff.1 hx).1
    obtain ⟨ad, e, c0, c1⟩ := at_T40 h (i : Int) (by omega) (by omega)
    have hr : rd_T40 l (i : Int) = x := by simp [rd_T40, hx]
    rw [hr] at c0 c1
    simp only [Int.toNat_natCast] at c0 c1
    refine ⟨ad, e, c0, ?_⟩
    rw [add_field2 _ _ _ (by omega)]
    exact c1
theorem ord_calls {w : World} {A : Option Addr} {l : List S40} {c k : Nat} {r : Bool} (h : Kd.C k40 w A l.length l) (hc : l.length ≤ c) (hr : feed_ordered.f k l = some r) :
    ∀ w', Below w.heap.size w w' → Calls Try.prog 16 #[.slice A l.length c] w' fun e w2 => e = .returned (.bool r) ∧ Drawn0 w' w2 :=
  fun w' hb => feed_ordered.calls k A c l r w' (by first | exact Kd.C_below h hb | exact C_below h hb) hc hr
/-- Merge over rows that were read. -/
theorem merge_rows {w : World} {A B : Option Addr} {l m : List S40} {ca cb k : Nat} {r0 r1 : Bool} (hA : Kd.C k40 w A l.length l) (hB : Kd.C k40 w B m.length m) (hca : l.length ≤ ca) (hcb : m.length ≤ cb) (hl : l.length ≤ 400) (hm : m.length ≤ 400)
    (h0 : feed_ordered.f k l = some r0) (h1 : feed_ordered.f k m = some r1) :
    Calls Try.prog 12 #[.slice A l.length ca, .slice B m.length cb] w fun e w' => Merged w w' e r0 r1 (pairs l) (pairs m) :=
  merge_calls w A B l.length m.length ca cb (pairs l) (pairs m) r0 r1 (AR.of_C hA) (AR.of_C hB) (pairs_length l) (pairs_length m) hl hm (ord_calls hA hca h0) (ord_calls hB hcb h1)

theorem ab_typed : feed_Typed.f 10 ⟨#[97, 98]⟩ 3 2 = some ([⟨3, 97⟩, ⟨5, 98⟩], 0) := by kernel_rfl
theorem ab_ordered : feed_ordered.f 10 [⟨3, 97⟩, ⟨5, 98⟩] = some true := by kernel_rfl
theorem ab_merged : cells2 (mrg (pairs [⟨3, 97⟩, ⟨5, 98⟩]) (pairs [⟨3, 97⟩, ⟨5, 98⟩])) = [.int .u64 3, .int .u8 97, .int .u64 3, .int .u8 97, .int .u64 5, .int .u8 98, .int .u64 5, .int .u8 98] := by
  simp [pairs, mrg, List.merge, cells2]

set_option maxRecDepth 100000 in
set_option maxHeartbeats 4000000 in
theorem awake_calls (w : World) : Calls Try.prog 6 #[] w fun e w' => e = .returned (.bool true) ∧ Below w.heap.size w w' := by
  have hz : True := trivial
  go_enter Try.func6, Try.ntmps6
  go_wp2_with fail
  refine (feed_Typed.calls 10 _ 3 2 _ _ w ab_typed).mono ?_
  rintro e w1 ⟨v, rfl, hR, hb⟩
  obtain ⟨ad, c, rfl⟩ := Kd.R_slice1 hR (by decide)
  obtain ⟨g0, rfl⟩ := Kd.R_head hR
  obtain ⟨-, hc, hC⟩ := Kd.R_reads' hR
  have B1 := Aside0.mk hb
  have HC := Aside0.mk hC
  have hc2 : 2 ≤ c := hc
  clear hR hb hC hc
  go_wp2_with fail
  refine (merge_rows (l := [⟨3, 97⟩, ⟨5, 98⟩]) (m := [⟨3, 97⟩, ⟨5, 98⟩]) HC.out HC.out hc2 hc2 (by decide) (by decide) ab_ordered ab_ordered).mono ?_
  rintro e w2 hM
  obtain ⟨hb2, hM⟩ := hM
  rw [if_neg (by simp), if_neg (by simp [pairs])] at hM
  obtain ⟨v, rfl, hrow⟩ := hM
  rw [ab_merged] at hrow
  change w2.ownsRow _ _ 2 v 4 _ at hrow
  obtain ⟨g, cap, rfl⟩ := ownsRow_succ hrow
  have m3 : w2.cell? ⟨g, 3, none⟩ = some (.int .u8 97) := (hrow.cellAt 3 (by decide)).trans rfl
  obtain ⟨ad, hA, a0, a1⟩ := at_T40 HC.out 1 (by omega) (by decide)
  cases hA
  have a0' : w2.cell? ⟨g0, 2, none⟩ = some (.int .u64 5) := (pw_cell_below hb2 a0)
  have B2 := Aside0.mk (B1.out.trans (hb2.mono B1.out.size))
  clear hrow hb2 a0 a1
  go_wp2_with fail
  go_ret
  exact ⟨rfl, B2.out⟩
end Go.Proofs.Ytdalboofhckobab
