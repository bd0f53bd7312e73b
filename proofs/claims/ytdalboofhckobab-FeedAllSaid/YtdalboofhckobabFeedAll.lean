/- feed.All and the document's All: what they answer. (PK=PFeedMerges) -/
import Derived.Test.YtdalboofhckobabFeedMerges
import Derived.Test.YtdalboofhckobabOpensRR
namespace Go.Proofs.Ytdalboofhckobab
open Go Go.RowKit Go.Deep Go.Proofs.YtdalboofhckobabW.PrintWords Go.Proofs.Ytdalboofhckobab.PFeedMerges
set_option linter.unusedVariables false
set_option linter.unusedSimpArgs false

/-- The document's Merge answers what the program's does. -/
theorem rmerge_calls (w : World) (A B : Option Addr) (n m ca cb : Nat) (a b : List (Int × Int)) (hA : AR w A a) (hB : AR w B b) (hla : a.length = n) (hlb : b.length = m) (hn : n ≤ 400) (hm : m ≤ 400) (hca : n ≤ ca) (hcb : m ≤ cb) (hAn : A = none → a = [] ∧ ca = 0) :
    Calls Try.prog 13 #[.slice A n ca, .slice B m cb] w fun e w' => Merged w w' e (okL a) (okL b) a b := by
  have R0 := rord_calls hA hla hn hca
  have R1 := rord_calls hB hlb hm hcb
  by_cases hbad : (!okL a || !okL b) = true
  · refine (rmerge_form w A B n m ca cb _ _ hbad R0 R1).mono ?_
    rintro e w' ⟨rfl, hb⟩
    exact ⟨hb, by rw [if_pos hbad]⟩
  · have h0 : okL a = true ∧ okL b = true := by simpa using hbad
    rw [h0.1] at R0
    rw [h0.2] at R1
    by_cases hlg : a.length + b.length > 256
    · refine (rmerge_long w A B n m ca cb (by omega) hn hm R0 R1).mono ?_
      rintro e w' ⟨rfl, hb⟩
      exact ⟨hb, by rw [if_neg hbad, if_pos hlg]⟩
    · refine (rmerge_ok w A B n m ca cb a b (by omega) hA hB hla hlb hAn hca R0 R1).mono ?_
      rintro e w' ⟨⟨v, rfl, hr⟩, hb⟩
      rw [ins_all b a (ord_okL h0.1) (ord_okL h0.2)] at hr
      exact ⟨hb, by rw [if_neg hbad, if_neg hlg]; exact ⟨v, rfl, by rw [hla, hlb]; exact hr⟩⟩

/-- Lists merged one after the other, or what is wrong. -/
def allM : List (Int × Int) → List (List (Int × Int)) → Int × List (Int × Int)
  | out, [] => (0, out)
  | out, x :: xs => if (!okL out || !okL x) = true then (1, []) else if out.length + x.length > 256 then (3, []) else allM (mrg out x) xs
/-- A value that is a row of arrivals. -/
def RV (w : World) (v : Value) (out : List (Int × Int)) : Prop := ∃ A c, v = .slice A out.length c ∧ out.length ≤ c ∧ AR w A out ∧ (A = none → out = [] ∧ c = 0)
theorem RV.below {w w' : World} {v : Value} {out : List (Int × Int)} (h : RV w v out) (d : Below w.heap.size w w') : RV w' v out := by
  obtain ⟨A, c, h1, h2, h3, h4⟩ := h
  exact ⟨A, c, h1, h2, h3.below d, h4⟩
theorem RV.of_own {w : World} {base : Nat} {v : Value} {al : List (Int × Int)} (h : w.ownsRow base 40 2 v al.length (cells2 al)) : RV w v al := AR.of_own h
theorem RV.nil (w : World) : RV w (.slice none 0 0) [] := ⟨none, 0, rfl, Nat.le_refl _, fun i p hp => by simp at hp, fun _ => ⟨rfl, rfl⟩⟩
def rowsL (len : Nat) (n : Nat → Nat) (f : Nat → Nat → Nat → Int) : List (List (Int × Int)) := (List.range len).map fun i => arrs (n i) (f i)
theorem rowsL_drop {len : Nat} {n : Nat → Nat} {f : Nat → Nat → Nat → Int} {k : Nat} (hk : k < len) : (rowsL len n f).drop k = arrs (n k) (f k) :: (rowsL len n f).drop (k + 1) := by
  have hl : k < (rowsL len n f).length := by simpa [rowsL] using hk
  rw [List.drop_eq_getElem_cons hl]
  simp [rowsL]
theorem rowsL_end (len : Nat) (n : Nat → Nat) (f : Nat → Nat → Nat → Int) : (rowsL len n f).drop len = [] := List.drop_eq_nil_of_le (by simp [rowsL])
/-- What All answers. -/
def AllEnd (W w' : World) (e : Ending) (r : Int × List (Int × Int)) : Prop :=
  Below W.heap.size W w' ∧ if r.1 = 0 then ∃ v, e = .returned (.tuple #[v, .int .i64 0]) ∧ RV w' v r.2 ∧ r.2.length ≤ 256 else e = .returned (.tuple #[.slice none 0 0, .int .i64 r.1])
theorem mrg_length (a b : List (Int × Int)) : (mrg a b).length = a.length + b.length := by
  unfold mrg
  rw [List.length_merge]

set_option maxRecDepth 100000 in
set_option maxHeartbeats 4000000 in
theorem all_calls (W : World) (X : Option Addr) (len cap : Nat) (A : Nat → Option Addr) (n c : Nat → Nat) (f : Nat → Nat → Nat → Int) (hX : IsRR [.u64, .u8] W X len cap A n c f) (hn : ∀ i, i < len → n i ≤ 300) (hl : len ≤ 10) :
    Calls Try.prog 10 #[.slice X len cap] W fun e w' => AllEnd W w' e (allM [] (rowsL len n f)) := by
  have HX := Aside0.mk hX
  have HN := Aside0.mk hn
  have HL := Aside0.mk hl
  obtain ⟨r, hr⟩ : ∃ r, allM [] (rowsL len n f) = r := ⟨_, rfl⟩
  have HR : Aside0 (allM [] ((rowsL len n f).drop 0) = r) := ⟨hr⟩
  rw [hr]
  clear hX hn hr hl
  go_enter Try.func10, Try.ntmps10
  go_wp2_with fail
  go_loopg [4, 11] (len + 1) (fun g v i wr => ∃ (k : Nat) (out : List (Int × Int)), g + k = len + 1 ∧ k ≤ len ∧ i = .int .i64 (k : Int) ∧ Aside0 (RV wr v out) ∧ Aside0 (allM out ((rowsL len n f).drop k) = r) ∧ Aside0 (Ord out) ∧ Aside0 (out.length ≤ 256) ∧ Aside0 (Below W.heap.size W wr))
  case atStart => exact ⟨0, [], by omega, by omega, rfl, ⟨RV.nil _⟩, HR, ⟨List.Pairwise.nil⟩, ⟨by simp⟩, ⟨Below.refl _ _⟩⟩
  case round =>
    obtain ⟨k, out, hgk, hkl, rfl, HV, HA, HO, HM, HB⟩ := hrel
    obtain ⟨wo, rfl⟩ : ∃ wo : World, wo = wr := ⟨_, rfl⟩
    have HG := Aside0.mk hgk
    clear hgk HR
    obtain ⟨A', c', rfl, hc', hAR, hnone⟩ := HV.out
    obtain ⟨N, hN⟩ : ∃ N, out.length = N := ⟨_, rfl⟩
    rw [hN] at hc' ⊢
    have HNL := Aside0.mk hN
    have HAR := Aside0.mk hAR
    have HNO := Aside0.mk hnone
    have HC := Aside0.mk hc'
    clear hN hAR hnone hc'
    by_cases hlt : k < len
    · have hlt' : ((k : Int) < (len : Int)) = True := by simp; omega
      obtain ⟨x, hx, hcell, hrow⟩ := (HX.out.below (by simp) HB.out).at_ hlt
      subst hx
      have HA2 := HA.out
      rw [rowsL_drop hlt, allM] at HA2
      have hb := rows_AR hrow
      have hlb := arrs_length (n k) (f k)
      have hcb := hrow.le.1
      have hnk := HN.out k hlt
      generalize arrs (n k) (f k) = b at hb hlb HA2
      generalize A k = Ak at *
      generalize n k = nk at *
      generalize c k = ck at *
      have HMG := Aside0.mk (merge_calls wo A' Ak N nk c' ck out b _ _ HAR.out hb HNL.out hlb (by have := HM.out; have := HNL.out; omega) (by omega) (ford_calls HAR.out HNL.out (by have := HM.out; have := HNL.out; omega) HC.out) (ford_calls hb hlb (by omega) hcb))
      have HLB := Aside0.mk hlb
      have HKL := Aside0.mk hlt
      clear hb hlb hcb hnk hrow
      go_wp2_with fail
      refine HMG.out.mono ?_
      rintro e w1 ⟨hb1, hM⟩
      have B1 := Aside0.mk (below_on HB.out hb1)
      clear hb1 HMG
      by_cases hbad : (!okL out || !okL b) = true
      · rw [if_pos hbad] at hM HA2
        subst hM
        have HRR := Aside0.mk HA2
        clear hbad HA2
        go_wp2_with fail
        try rw [Exit.noGoto_ret]
        refine bodyPost_ret (results_tmp2 rfl _ _ _) rfl ?_
        refine ⟨B1.out, ?_⟩
        rw [← HRR.out]
        exact rfl
      · rw [if_neg hbad] at hM HA2
        by_cases hlg : out.length + b.length > 256
        · rw [if_pos hlg] at hM HA2
          subst hM
          have HRR := Aside0.mk HA2
          clear hbad HA2 hlg
          go_wp2_with fail
          try rw [Exit.noGoto_ret]
          refine bodyPost_ret (results_tmp2 rfl _ _ _) rfl ?_
          refine ⟨B1.out, ?_⟩
          rw [← HRR.out]
          exact rfl
        · rw [if_neg hlg] at hM HA2
          obtain ⟨v, rfl, hrow⟩ := hM
          have h0 : okL out = true ∧ okL b = true := by simpa using hbad
          rw [← mrg_length] at hrow
          have HRR := Aside0.mk HA2
          have HV2 := Aside0.mk (RV.of_own hrow)
          have HO2 := Aside0.mk (ord_mrg out b (ord_okL h0.1) (ord_okL h0.2))
          have HM2 : Aside0 ((mrg out b).length ≤ 256) := ⟨by rw [mrg_length]; omega⟩
          have e2 : wrap64 ((k : Int) + 1) = ((k + 1 : Nat) : Int) := by have := HL.out; unfold wrap64; omega
          clear hbad HA2 hlg h0 hrow
          go_wp2_with fail
          have HG2 := HG.out
          have E2 := Aside0.mk e2
          clear e2
          go_roundg (gk - 1)
          case measure => omega
          case rel => exact ⟨k + 1, _, by omega, by omega, by first | exact congrArg (Value.int .i64) E2.out | (congr 1; done), HV2, HRR, HO2, HM2, B1⟩
    · obtain rfl : k = len := by omega
      have hlt' : ((k : Int) < (k : Int)) = False := by simp
      have HRR := HA.out
      rw [rowsL_end] at HRR
      have HRR := Aside0.mk HRR
      go_wp2_with fail
      try rw [Exit.noGoto_ret]
      refine bodyPost_ret (results_tmp2 rfl _ _ _) rfl ?_
      refine ⟨HB.out, ?_⟩
      rw [← HRR.out]
      exact ⟨_, rfl, by rw [← HNL.out]; exact HV.out, HM.out⟩
end Go.Proofs.Ytdalboofhckobab
