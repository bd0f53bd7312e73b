/- The policy: the choices of a text, by contract. -/
import Derived.Test.YtfnbpmkbjbibkaaDoorPol
import Derived.OwnWalk
import Derived.Laws.OwnMore
import Derived.Maps.AppendAt
namespace Go.Proofs.YtfnbpmkbjbibkaaDoor
open Go Go.RowKit Go.Deep Go.Proofs.YtfnbpmkbjbibkaaDoor.QPolicyParses Go.Proofs.YtfnbpmkbjbibkaaDoorW.PrintWords
set_option linter.unusedVariables false
set_option linter.unusedSimpArgs false

theorem pinfo_parts {P : Program} {t : TypeId} {z : Value} {s b : Nat} (h : (P.info? t).map (fun i => (i.zero, i.size, i.bytes)) = some (some z, s, b)) : ∃ i, P.info? t = some i ∧ i.zero = some z ∧ i.size = s ∧ i.bytes = b := by
  obtain ⟨i, hi, hz⟩ := Option.map_eq_some_iff.1 h
  simp only [Prod.mk.injEq] at hz
  exact ⟨i, hi, hz.1, hz.2.1, hz.2.2⟩
theorem powns_below {w w' : World} {base : Nat} {e : TypeId} {size : Nat} {v : Value} {n : Nat} {xs : List Value} (h : w.ownsRow base e size v n xs) (k : Below w.heap.size w w') : w'.ownsRow base e size v n xs :=
  h.kept (show w.grownBy w' none from ⟨k.os, k.tape, k.output, k.size, fun i hi _ => k.block i hi⟩) (by cases hv : v.ownBlock <;> simp)
theorem powns_ne {w : World} {base B : Nat} {e t : TypeId} {size : Nat} {v : Value} {n : Nat} {xs : List Value} {cs : Array Value} {fr : Nat × Nat} (h : w.ownsRow base e size v n xs) (hb : w.heap[B]? = some (.cells cs t fr)) (hn : e ≠ t) : v.ownBlock ≠ some B := by
  intro he
  rcases h.2 with ⟨rfl, _⟩ | ⟨g, cap, cur, rfl, _, hg, _⟩
  · cases he
  · cases he
    rw [hg] at hb
    simp at hb
    exact hn hb.2.1

/-- The cells of choices: kind, argument. -/
def ccells (l : List (Int × Int)) : List Value := l.flatMap fun p => [.int .i64 p.1, .int .i64 p.2]
theorem ccells_append (l : List (Int × Int)) (p : Int × Int) : ccells (l ++ [p]) = ccells l ++ [.int .i64 p.1, .int .i64 p.2] := by simp [ccells]
theorem ccells_length (l : List (Int × Int)) : (ccells l).length = l.length * 2 := by
  induction l with
  | nil => rfl
  | cons p l ih => simp only [ccells, List.flatMap_cons, List.length_append, List.length_cons, List.length_nil] at ih ⊢; omega

/-- The words' choices, in turn. -/
def pgo (C : ByteArray → Int × Int × Bool) : List ByteArray → List (Int × Int) → Option (List (Int × Int))
  | [], acc => some acc
  | s :: r, acc => if s.toList.isEmpty = true then pgo C r acc else if (C s).2.2 = true then pgo C r (acc ++ [((C s).1, (C s).2.1)]) else none

/-- What Parse hands back. -/
def ParseEnd (w : World) (R : Option (List (Int × Int))) (e : Ending) (w' : World) : Prop :=
  Below w.heap.size w w' ∧ match R with
  | none => e = .returned (.tuple #[.slice none 0 0, .int .i64 1])
  | some l => if 512 < l.length then e = .returned (.tuple #[.slice none 0 0, .int .i64 3]) else ∃ v, e = .returned (.tuple #[v, .int .i64 0]) ∧ w'.ownsRow w.heap.size 66 2 v l.length (ccells l)

set_option maxRecDepth 100000 in
set_option maxHeartbeats 4000000 in
theorem parse_calls (w : World) (s s2 : ByteArray) (xs : List ByteArray) (C : ByteArray → Int × Int × Bool) (R : Option (List (Int × Int))) (hl : s.size ≤ 65536) (hxl : xs.length ≤ 100000)
    (hR : ∀ w', Below w.heap.size w w' → Calls Tryd.prog 60 #[.string s, .string ⟨#[10]⟩, .string ⟨#[32]⟩] w' fun e w'' => e = .returned (.string s2) ∧ Below w'.heap.size w' w'')
    (hS : ∀ w', Below w.heap.size w w' → Calls Tryd.prog 59 #[.string s2, .string ⟨#[32]⟩] w' fun e w'' => ∃ g, e = .returned (.slice (some ⟨g, 0, none⟩) xs.length xs.length) ∧ w''.heap[g]? = some (.cells (xs.map Value.string).toArray 9 (0, 0)) ∧ Below w'.heap.size w' w'')
    (hC : ∀ x, x ∈ xs → ∀ w', Below w.heap.size w w' → Calls Tryd.prog 61 #[.string x] w' fun e w'' => e = .returned (.tuple #[.agg #[.int .i64 (C x).1, .int .i64 (C x).2.1], .bool (C x).2.2]) ∧ Below w'.heap.size w' w'')
    (hgo : pgo C xs [] = R) :
    Calls Tryd.prog 32 #[.string s] w (ParseEnd w R) := by
  obtain ⟨i0, hi, hz0, hz1, hz2⟩ := pinfo_parts (show (Tryd.prog.info? 66).map (fun i => (i.zero, i.size, i.bytes)) = some (some (.agg #[.int .i64 0, .int .i64 0]), 2, 16) by kernel_rfl)
  obtain ⟨P, hP⟩ : ∃ P, P = ParseEnd w R := ⟨_, rfl⟩
  rw [← hP]
  have HP := Aside0.mk hP
  have HR := Aside0.mk hR
  have HS := Aside0.mk hS
  have HC := Aside0.mk hC
  have HG := Aside0.mk hgo
  obtain ⟨n, hn⟩ : ∃ n, xs.length = n := ⟨_, rfl⟩
  rw [hn] at HS hxl
  have HN := Aside0.mk hn
  have hl' : ((65536 : Int) < (s.size : Int)) = False := by simp; omega
  clear hP hR hS hC hgo hn
  go_enter Tryd.func32, Tryd.ntmps32
  go_wp2_with fail
  refine (HR.out _ (Below.refl _ _)).mono ?_
  rintro e w1 ⟨rfl, b1⟩
  have B1 := Aside0.mk b1
  clear b1 HR
  go_wp2_with fail
  refine (HS.out _ B1.out).mono ?_
  rintro e w2 ⟨g, rfl, k2, b2⟩
  have K2 := Aside0.mk k2
  have B2 := Aside0.mk (below_on B1.out b2)
  clear k2 b2 HS B1
  go_wp2_with fail
  go_loopg [4, 16] (n + 1) (fun gh v i wr => ∃ (k : Nat) (acc : List (Int × Int)), gh + k = n + 1 ∧ k ≤ n ∧ acc.length ≤ k ∧ i = .int .i64 (k : Int) ∧ Aside0 (wr.ownsRow w.heap.size 66 2 v acc.length (ccells acc)) ∧ Aside0 (Below w.heap.size w wr) ∧ Aside0 (wr.heap[g]? = some (.cells (xs.map Value.string).toArray 9 (0, 0))) ∧ Aside0 (pgo C (xs.drop k) acc = R))
  case atStart => exact ⟨0, [], rfl, by omega, by simp, rfl, ⟨World.ownsRow_nil _ _ _ _⟩, B2, K2, ⟨HG.out⟩⟩
  case round =>
    obtain ⟨k, acc, hk, hkn, hak, rfl, hO, hB, hG, hR⟩ := hrel
    obtain ⟨wo, rfl⟩ : ∃ wo : World, wo = wr := ⟨_, rfl⟩
    by_cases hlt : k < n
    · have hlt' : ((k : Int) < (n : Int)) = True := by simp; omega
      have hkx : k < xs.length := by rw [HN.out]; exact hlt
      obtain ⟨x, hx⟩ : ∃ x, xs[k] = x := ⟨_, rfl⟩
      have hxm : x ∈ xs := hx ▸ List.getElem_mem hkx
      have cx : wo.cell? ⟨g, k, none⟩ = some (.string x) := (blk_cell hG.out k).trans (by simp [List.getElem?_eq_getElem hkx, hx])
      have hdr : pgo C (x :: xs.drop (k + 1)) acc = R := by
        have h := hR.out
        rw [List.drop_eq_getElem_cons hkx, hx] at h
        exact h
      have HX := Aside0.mk (And.intro hxm hdr)
      clear hxm hdr hx hkx
      cases hem : x.toList.isEmpty with
      | true =>
        have hR' : Aside0 (pgo C (xs.drop (k + 1)) acc = R) := ⟨by have h := HX.out.2; rw [pgo, if_pos hem] at h; exact h⟩
        go_wp2_with fail
        go_roundg (gk - 1)
        case measure => omega
        case rel => exact ⟨k + 1, acc, by omega, by omega, by omega, by congr 1, hO, hB, hG, hR'⟩
      | false =>
        have HCX := Aside0.mk (HC.out x HX.out.1 _ hB.out)
        obtain ⟨kd, ar, ok, hcx⟩ : ∃ kd ar ok, C x = (kd, ar, ok) := ⟨_, _, _, rfl⟩
        rw [hcx] at HCX
        have HCE := Aside0.mk hcx
        clear hcx
        cases ok with
        | false =>
          have hR' : Aside0 (R = none) := ⟨by have h := HX.out.2; rw [pgo, if_neg (by rw [hem]; simp), HCE.out, if_neg (by simp)] at h; exact h.symm⟩
          go_wp2_with fail
          refine HCX.out.mono ?_
          rintro e w3 ⟨rfl, b3⟩
          have B3 := Aside0.mk (fun o => below_alloc (below_on hB.out b3) o)
          clear b3 HCX
          go_wp2_with fail
          rw [HP.out]
          unfold ParseEnd
          rw [hR'.out]
          exact ⟨B3.out _, rfl⟩
        | true =>
          have hR' : Aside0 (pgo C (xs.drop (k + 1)) (acc ++ [(kd, ar)]) = R) := ⟨by have h := HX.out.2; rw [pgo, if_neg (by rw [hem]; simp), HCE.out, if_pos rfl] at h; exact h⟩
          go_wp2_with fail
          refine HCX.out.mono ?_
          rintro e w3 ⟨rfl, b3⟩
          have B3 := Aside0.mk (below_on hB.out b3)
          have O3 := Aside0.mk (powns_below hO.out b3)
          have G3 := Aside0.mk (blk_below hG.out b3)
          clear b3 HCX hO hB hG
          go_upto_region 11 with fail
          have K4 := Aside0.mk (blk_new w3 (.cells #[.int .i64 kd, .int .i64 ar] 66))
          have B4 := Aside0.mk (below_alloc B3.out (.cells #[.int .i64 kd, .int .i64 ar] 66))
          have O4 := Aside0.mk (powns_below O3.out (below_alloc (Below.refl _ _) (.cells #[.int .i64 kd, .int .i64 ar] 66)))
          have G4 := Aside0.mk (blk_below G3.out (below_alloc (Below.refl _ _) (.cells #[.int .i64 kd, .int .i64 ar] 66)))
          generalize hw4 : World.alloc w3 _ = w4 at K4 B4 O4 G4 ⊢
          generalize w3.heap.size = T at K4 ⊢
          clear B3 O3 G3 hw4
          have t0 : w4.cell? ⟨T, 0, none⟩ = some (.int .i64 kd) := (blk_cell K4.out 0).trans rfl
          have t1 : w4.cell? ⟨T, 1, none⟩ = some (.int .i64 ar) := (blk_cell K4.out 1).trans rfl
          clear K4
          go_wp2_with (at_builtin; refine wpList_append_own _ rfl _ _ 57 rfl w.heap.size 66 i0 (.agg #[.int .i64 0, .int .i64 0]) 2 16 Tryd.underlying57 hi hz0 hz1 hz2 rfl (by decide) _ acc.length (ccells acc) rfl (O4.out.alloc _) ⟨w4.heap.size, 0, none⟩ 1 1 [.int .i64 kd, .int .i64 ar] rfl rfl (cell_two_new _ _ _ _) (by simp [Value.oneCell']) (by simp only [maxLen]; omega) (by omega) (by have := B4.out.size; simp; omega) ?_; intro v1 w5 hown5 hgrow5 _)
          have B5 := Aside0.mk ((below_alloc B4.out (.cells #[.int .i64 kd, .int .i64 ar] 66)).grown hgrow5 (below_alloc B4.out (.cells #[.int .i64 kd, .int .i64 ar] 66)).size (fun k hk => (O4.out.lt k hk).1))
          have G5 : Aside0 (w5.heap[g]? = some (.cells (xs.map Value.string).toArray 9 (0, 0))) := ⟨(hgrow5.block g (by have := blk_lt G4.out; simp; omega) (fun e => powns_ne O4.out G4.out (by decide) e.symm)).trans (blk_below G4.out (below_alloc (Below.refl _ _) _))⟩
          have O5 : Aside0 (w5.ownsRow w.heap.size 66 2 v1 (acc ++ [(kd, ar)]).length (ccells (acc ++ [(kd, ar)]))) := ⟨by rw [ccells_append, List.length_append]; exact hown5⟩
          clear hown5 hgrow5 B4 O4 G4
          go_roundg (gk - 1)
          case measure => omega
          case rel => exact ⟨k + 1, acc ++ [(kd, ar)], by omega, by omega, by simp; omega, by congr 1, O5, B5, G5, hR'⟩
    · have hkn' : k = n := by omega
      subst hkn'
      have hlt' : ((k : Int) < (k : Int)) = False := by simp
      have hR' : Aside0 (R = some acc) := ⟨by have h := hR.out; rw [List.drop_of_length_le (by rw [HN.out]; exact Nat.le_refl _)] at h; exact h.symm⟩
      obtain ⟨A, c, rfl⟩ : ∃ A c, u4 = .slice A acc.length c := by
        rcases hO.out.2 with ⟨rfl, h0⟩ | ⟨g', cap, cur, rfl, _⟩
        · exact ⟨none, 0, by rw [h0]⟩
        · exact ⟨_, cap, rfl⟩
      by_cases h5 : 512 < acc.length
      · have h5' : ((512 : Int) < (acc.length : Int)) = True := by simp; omega
        go_wp2_with fail
        rw [HP.out]
        unfold ParseEnd
        rw [hR'.out]
        exact ⟨hB.out, by simp [h5]⟩
      · have h5' : ((512 : Int) < (acc.length : Int)) = False := by simp; omega
        go_wp2_with fail
        rw [HP.out]
        unfold ParseEnd
        rw [hR'.out]
        refine ⟨hB.out, ?_⟩
        simp only [h5, if_false]
        exact ⟨_, rfl, hO.out⟩
end Go.Proofs.YtfnbpmkbjbibkaaDoor
