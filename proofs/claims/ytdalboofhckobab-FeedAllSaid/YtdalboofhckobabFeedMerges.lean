/- The walk of FeedMerges. (PK=PFeedMerges) -/
import Derived.Test.YtdalboofhckobabFeedAwake
import Derived.Test.YtdalboofhckobabFeedRMergeB
import Derived.Test.YtdalboofhckobabFeedOrdB
import Derived.Test.YtdalboofhckobabFeedNew
import Derived.Test.YtdalboofhckobabOpensRows
namespace Go.Proofs.Ytdalboofhckobab
open Go Go.RowKit Go.Deep Go.Proofs.YtdalboofhckobabW.PrintWords Go.Proofs.Ytdalboofhckobab.PFeedMerges
set_option linter.unusedVariables false
set_option linter.unusedSimpArgs false

theorem same_l (l : List S40) : ∀ (d k i : Nat), i + d = l.length → d < k → l.length < 1000000 → mimesisref41_Same.l0 k l l (i : Int) = some true
  | 0, k + 1, i, hd, hk, hl => by rw [mimesisref41_Same.l0, if_neg (by omega)]
  | d + 1, k + 1, i, hd, hk, hl => by
    rw [mimesisref41_Same.l0, if_pos (by omega), if_pos (by omega), if_pos (by omega), if_neg (by simp)]
    have e : wrap64 ((i : Int) + 1) = ((i + 1 : Nat) : Int) := by unfold wrap64; omega
    rw [e, same_l l d k (i + 1) (by omega) (by omega) hl]
theorem same_f (l : List S40) (hl : l.length < 1000) : mimesisref41_Same.f 1001 l l = some true := by
  rw [mimesisref41_Same.f, if_pos rfl]
  exact same_l l l.length 1001 0 (by omega) (by omega) (by omega)
/-- Arrivals, as the printed contracts name them. -/
def sof (al : List (Int × Int)) : List S40 := al.map fun p => ⟨p.1, p.2⟩
theorem sof_length (al : List (Int × Int)) : (sof al).length = al.length := by simp [sof]
theorem AR.C {w : World} {A : Option Addr} {al : List (Int × Int)} (h : AR w A al) (hl : al.length ≤ 1000) : Kd.C k40 w A (sof al).length (sof al) := by
  refine ⟨rfl, by rw [sof_length]; omega, fun hn => ?_⟩
  rw [sof_length] at hn
  obtain ⟨x, hx, _⟩ := h 0 _ (List.getElem?_eq_getElem hn)
  subst hx
  refine ⟨x, rfl, fun j p hp => ?_⟩
  unfold sof at hp
  rw [List.getElem?_map] at hp
  cases hq : al[j]? with
  | none => rw [hq] at hp; cases hp
  | some q =>
    rw [hq] at hp
    cases hp
    obtain ⟨y, hy, c0, c1⟩ := h j q hq
    cases hy
    refine ⟨_, rfl, k40_mk _ _, fun i u hu => ?_⟩
    match i, hu with
    | 0, hu => cases hu; exact c0
    | 1, hu => cases hu; exact c1
    | _ + 2, hu => cases hu
/-- Are arrivals in their order? -/
def okL (al : List (Int × Int)) : Bool := okFrom (sof al) 0 (al.length - 1)
theorem ord_okL {al : List (Int × Int)} (h : okL al = true) : Ord al := by
  have := ord_of (sof al) (by rw [sof_length]; exact h)
  have e : (sof al).map (fun x => (x.f0, x.f1)) = al := by simp [sof, Function.comp_def]
  rwa [e] at this
section
variable {w : World} {A : Option Addr} {al : List (Int × Int)} {n c : Nat}
theorem ford_calls (h : AR w A al) (hl : al.length = n) (hn : n ≤ 400) (hc : n ≤ c) : ∀ w', Below w.heap.size w w' → Calls Try.prog 16 #[.slice A n c] w' fun e w2 => e = .returned (.bool (okL al)) ∧ Drawn0 w' w2 := by
  subst hl
  intro w' hb
  have := feed_ordered.calls 1001 A c (sof al) _ w' (AR.C (h.below hb) (by omega)) (by rw [sof_length]; exact hc) (ford_f (sof al) (by rw [sof_length]; omega))
  rw [sof_length] at this
  exact this
theorem rord_calls (h : AR w A al) (hl : al.length = n) (hn : n ≤ 400) (hc : n ≤ c) : ∀ w', Below w.heap.size w w' → Calls Try.prog 19 #[.slice A n c] w' fun e w2 => e = .returned (.bool (okL al)) ∧ Drawn0 w' w2 := by
  subst hl
  intro w' hb
  have := mimesisref41_ordered.calls 1001 A c (sof al) _ w' (AR.C (h.below hb) (by omega)) (by rw [sof_length]; exact hc) (rord_f (sof al) (by rw [sof_length]; omega))
  rw [sof_length] at this
  exact this
end
def arrs (len : Nat) (f : Nat → Nat → Int) : List (Int × Int) := (List.range len).map fun i => (f i 0, f i 1)
theorem arrs_length (len : Nat) (f : Nat → Nat → Int) : (arrs len f).length = len := by simp [arrs]
theorem arrs_get {len : Nat} {f : Nat → Nat → Int} {i : Nat} {p : Int × Int} (h : (arrs len f)[i]? = some p) : i < len ∧ p = (f i 0, f i 1) := by
  have hi : i < len := by have := (List.getElem?_eq_some_iff.1 h).1; rwa [arrs_length] at this
  refine ⟨hi, ?_⟩
  simp [arrs, hi] at h
  exact h.symm
section
variable {w : World} {A : Option Addr} {len cap : Nat} {f : Nat → Nat → Int}
theorem rows_AR (h : IsRows [.u64, .u8] w A len cap f) : AR w A (arrs len f) := fun i p hp => by
  obtain ⟨hi, rfl⟩ := arrs_get hp
  obtain ⟨x, rfl, hx⟩ := h.at_ hi
  have h0 := (hx 0 .u64 rfl).1
  have h1 := (hx 1 .u8 rfl).1
  exact ⟨x, rfl, h0, h1⟩
theorem rows_nil (h : IsRows [.u64, .u8] w A len cap f) : A = none → arrs len f = [] ∧ cap = 0 := by
  rintro rfl
  rcases h with ⟨_, rfl, rfl⟩ | ⟨x, h, _⟩
  · exact ⟨rfl, rfl⟩
  · cases h
end

set_option maxRecDepth 100000 in
set_option maxHeartbeats 4000000 in
theorem merges_long (A B : Option Addr) (n m ca cb : Nat) (W : World) (h : 400 < n ∨ 400 < m) : Calls Try.prog 5 #[.slice A n ca, .slice B m cb] W fun e w' => e = .returned (.bool true) ∧ Below W.heap.size W w' := by
  by_cases h1 : 400 < n
  · have q1 : ((400 : Int) < (n : Int)) = True := by simp; omega
    clear h h1
    go_enter Try.func5, Try.ntmps5
    go_wp2_with fail
    refine (awake_calls _).mono ?_
    rintro e w1 ⟨rfl, hb⟩
    have B1 := Aside0.mk hb
    clear hb
    go_wp2_with fail
    go_ret
    exact ⟨rfl, B1.out⟩
  · have q1 : ((400 : Int) < (n : Int)) = False := by simp; omega
    have q2 : ((400 : Int) < (m : Int)) = True := by simp; omega
    clear h h1
    go_enter Try.func5, Try.ntmps5
    go_wp2_with fail
    refine (awake_calls _).mono ?_
    rintro e w1 ⟨rfl, hb⟩
    have B1 := Aside0.mk hb
    clear hb
    go_wp2_with fail
    go_ret
    exact ⟨rfl, B1.out⟩
set_option maxRecDepth 100000 in
set_option maxHeartbeats 4000000 in
theorem merges_short (A B : Option Addr) (n m ca cb : Nat) (a b : List (Int × Int)) (W : World) (hn : n ≤ 400) (hm : m ≤ 400) (hA : AR W A a) (hB : AR W B b) (hla : a.length = n) (hlb : b.length = m) (hca : n ≤ ca) (hcb : m ≤ cb) (hAn : A = none → a = [] ∧ ca = 0) :
    Calls Try.prog 5 #[.slice A n ca, .slice B m cb] W fun e w' => e = .returned (.bool true) ∧ Below W.heap.size W w' := by
  have HM := Aside0.mk (merge_calls W A B n m ca cb a b _ _ hA hB hla hlb hn hm (ford_calls hA hla hn hca) (ford_calls hB hlb hm hcb))
  have HA := Aside0.mk hA
  have HB := Aside0.mk hB
  have HL := Aside0.mk (And.intro hla hlb)
  have HN := Aside0.mk (And.intro hn hm)
  have HC := Aside0.mk (And.intro hca hcb)
  have HAN := Aside0.mk hAn
  have q1 : ((400 : Int) < (n : Int)) = False := by simp; omega
  have q2 : ((400 : Int) < (m : Int)) = False := by simp; omega
  clear hA hB hla hlb hn hm hca hcb hAn
  go_enter Try.func5, Try.ntmps5
  go_wp2_with fail
  refine HM.out.mono ?_
  rintro e w1 ⟨hb, hM⟩
  have B1 := Aside0.mk hb
  clear hb HM
  by_cases hbad : (!okL a || !okL b) = true
  · rw [if_pos hbad] at hM
    subst hM
    have HR := Aside0.mk (rmerge_form w1 A B n m ca cb _ _ hbad (rord_calls (HA.out.below B1.out) HL.out.1 HN.out.1 HC.out.1) (rord_calls (HB.out.below B1.out) HL.out.2 HN.out.2 HC.out.2))
    clear hbad
    go_wp2_with fail
    refine HR.out.mono ?_
    rintro e w2 ⟨rfl, hb⟩
    have B2 := Aside0.mk (below_on B1.out hb)
    clear hb HR
    go_wp2_with fail
    refine (awake_calls _).mono ?_
    rintro e w3 ⟨rfl, hb⟩
    have B3 := Aside0.mk (below_on B2.out hb)
    clear hb
    go_wp2_with fail
    go_ret
    exact ⟨rfl, B3.out⟩
  · rw [if_neg hbad] at hM
    have h0 : okL a = true ∧ okL b = true := by simpa using hbad
    have R0 := rord_calls (HA.out.below B1.out) HL.out.1 HN.out.1 HC.out.1
    have R1 := rord_calls (HB.out.below B1.out) HL.out.2 HN.out.2 HC.out.2
    rw [h0.1] at R0
    rw [h0.2] at R1
    by_cases hlg : a.length + b.length > 256
    · rw [if_pos hlg] at hM
      subst hM
      rw [HL.out.1, HL.out.2] at hlg
      have HR := Aside0.mk (rmerge_long w1 A B n m ca cb hlg HN.out.1 HN.out.2 R0 R1)
      clear hbad h0 R0 R1 hlg
      go_wp2_with fail
      refine HR.out.mono ?_
      rintro e w2 ⟨rfl, hb⟩
      have B2 := Aside0.mk (below_on B1.out hb)
      clear hb HR
      go_wp2_with fail
      refine (awake_calls _).mono ?_
      rintro e w3 ⟨rfl, hb⟩
      have B3 := Aside0.mk (below_on B2.out hb)
      clear hb
      go_wp2_with fail
      go_ret
      exact ⟨rfl, B3.out⟩
    · rw [if_neg hlg] at hM
      obtain ⟨v, rfl, hrow⟩ := hM
      have hlm : (mrg a b).length = a.length + b.length := by have := hrow.1; rw [cells2_length] at this; omega
      rw [HL.out.1, HL.out.2] at hlg hlm
      rw [HL.out.1, HL.out.2] at hrow
      have ho : Ord (mrg a b) := ord_mrg a b (ord_okL h0.1) (ord_okL h0.2)
      have HI := Aside0.mk (ins_all b a (ord_okL h0.1) (ord_okL h0.2))
      have HR := Aside0.mk (rmerge_ok w1 A B n m ca cb a b (by omega) (HA.out.below B1.out) (HB.out.below B1.out) HL.out.1 HL.out.2 HAN.out HC.out.1 R0 R1)
      obtain ⟨M, hM⟩ : ∃ M, mrg a b = M := ⟨_, rfl⟩
      rw [hM] at hlm hrow ho HI
      obtain ⟨N, hN⟩ : ∃ N, n + m = N := ⟨_, rfl⟩
      rw [hN] at hlg hlm hrow HR
      rw [← hlm] at hrow
      obtain ⟨A', c', rfl, hc', hAR, hnone⟩ := AR.of_own hrow
      rw [hlm] at hc'
      have HS := Aside0.mk (And.intro hlm (And.intro hc' hnone))
      have HAR := Aside0.mk hAR
      have HO := Aside0.mk ho
      have HLG := Aside0.mk hlg
      have e0 : (Value.slice A' M.length c') = .slice A' N c' := by rw [hlm]
      rw [e0]
      clear hbad h0 R0 R1 hlg hlm hrow ho hM hN hc' hAR hnone e0
      go_wp2_with fail
      refine HR.out.mono ?_
      rintro e w2 ⟨⟨v2, rfl, hrow2⟩, hb⟩
      rw [HI.out, ← HS.out.1] at hrow2
      obtain ⟨A2, c2, rfl, hc2, hAR2, _⟩ := AR.of_own hrow2
      have HS2 := Aside0.mk hc2
      have HAR1 := Aside0.mk (HAR.out.below hb)
      have HAR2 := Aside0.mk hAR2
      have B2 := Aside0.mk (below_on B1.out hb)
      have e0 : (Value.slice A2 M.length c2) = .slice A2 N c2 := by rw [HS.out.1]
      rw [e0]
      have HNW := cnew_ok w2 A' c' M HAR1.out HS.out.2.2 (by rw [HS.out.1]; have := HLG.out; omega) (aord_of HO.out)
      rw [HS.out.1] at HNW
      have HNW := Aside0.mk HNW
      clear hb HR hrow2 hc2 hAR2 e0 HAR
      go_wp2_with fail
      refine HNW.out.mono ?_
      rintro e w3 ⟨C, rfl, hb⟩
      have HAR3 := Aside0.mk (HAR1.out.below hb)
      have HAR4 := Aside0.mk (HAR2.out.below hb)
      have B3 := Aside0.mk (below_on B2.out hb)
      clear hb HNW HAR1 HAR2
      have HSM : Aside0 (∀ w', Drawn0 w3 w' → Calls Try.prog _ #[.slice A' N c', .slice A2 N c2] w' _) := ⟨fun w' hd => by
        have := mimesisref41_Same.calls 1001 A' c' (sof M) A2 c2 (sof M) true w' (AR.C (HAR3.out.below hd.below) (by rw [HS.out.1]; have := HLG.out; omega)) (by rw [sof_length, HS.out.1]; exact HS.out.2.1) (AR.C (HAR4.out.below hd.below) (by rw [HS.out.1]; have := HLG.out; omega)) (by rw [sof_length]; exact HS2.out) (same_f (sof M) (by rw [sof_length, HS.out.1]; have := HLG.out; omega))
        rw [sof_length, HS.out.1] at this
        exact this⟩
      go_wp2_with fail
      refine (HSM.out _ (by first | exact Drawn0.refl _ | exact ⟨_, rfl⟩)).mono ?_
      rintro e w4 ⟨rfl, hd⟩
      have B4 := Aside0.mk (below_on B3.out hd.below)
      clear hd HSM
      go_wp2_with fail
      refine (awake_calls _).mono ?_
      rintro e w5 ⟨rfl, hb⟩
      have B5 := Aside0.mk (below_on B4.out hb)
      clear hb
      go_wp2_with fail
      go_ret
      exact ⟨rfl, B5.out⟩
theorem feed_merges (A : Option Addr) (n ca : Nat) (f : Nat → Nat → Int) (B : Option Addr) (m cb : Nat) (g : Nat → Nat → Int) (W : World) (hf : IsRows [.u64, .u8] W A n ca f) (hg : IsRows [.u64, .u8] W B m cb g) :
    Calls Try.prog 5 #[.slice A n ca, .slice B m cb] W fun e w' => e = .returned (.bool true) ∧ Below W.heap.size W w' := by
  by_cases h : 400 < n ∨ 400 < m
  · exact merges_long A B n m ca cb W h
  · exact merges_short A B n m ca cb (arrs n f) (arrs m g) W (by omega) (by omega) (rows_AR hf) (rows_AR hg) (arrs_length _ _) (arrs_length _ _) hf.le.1 hg.le.1 (rows_nil hf)
end Go.Proofs.Ytdalboofhckobab
