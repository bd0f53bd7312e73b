/- The document's 'Merge': what it does. -/
import Derived.Test.YtdalboofhckobabFeedRApp
import Derived.BigQuiet
namespace Go.Proofs.Ytdalboofhckobab
open Go Go.RowKit Go.Proofs.YtdalboofhckobabW.PrintWords
set_option linter.unusedVariables false
set_option linter.unusedSimpArgs false

set_option maxRecDepth 100000 in
set_option maxHeartbeats 4000000 in
theorem rmerge_ok (w : World) (A B : Option Addr) (n m ca cb : Nat) (a b : List (Int × Int)) (hl : n + m ≤ 256) (hA : AR w A a) (hB : AR w B b) (hn : a.length = n) (hm : b.length = m) (hAn : A = none → a = [] ∧ ca = 0) (hc : n ≤ ca)
    (ho0 : ∀ w', Below w.heap.size w w' → Calls Try.prog 19 #[.slice A n ca] w' fun e w2 => e = .returned (.bool true) ∧ Drawn0 w' w2)
    (ho1 : ∀ w', Below w.heap.size w w' → Calls Try.prog 19 #[.slice B m cb] w' fun e w2 => e = .returned (.bool true) ∧ Drawn0 w' w2) :
    Calls Try.prog 13 #[.slice A n ca, .slice B m cb] w fun e w' => (∃ v, e = .returned (.tuple #[v, .int .i64 0]) ∧ w'.ownsRow w.heap.size 40 2 v (n + m) (cells2 (b.foldl ins a))) ∧ Below w.heap.size w w' := by
  have O0 := Aside0.mk (ho0 w (Below.refl _ _))
  have O1 := Aside0.mk ho1
  have HA := Aside0.mk hA
  have HBB := Aside0.mk hB
  have HN := Aside0.mk hn
  have HM := Aside0.mk hm
  have HL := Aside0.mk hl
  clear ho0 ho1 hA hB hn hm
  have qw : wrap64 ((n : Int) + (m : Int)) = (n : Int) + (m : Int) := by unfold wrap64; omega
  have q1 : (256 < (n : Int) + (m : Int)) = False := by simp; omega
  obtain ⟨i0, hi0, hz0, hz1, hz2⟩ := info_parts infoArr
  clear hl
  go_enter Try.func13, Try.ntmps13
  go_wp2_with fail
  refine O0.out.mono ?_
  rintro e w1 ⟨rfl, d1⟩
  have B1 := Aside0.mk d1.below
  clear d1
  go_wp2_with fail
  refine (O1.out _ B1.out).mono ?_
  rintro e w2 ⟨rfl, d1⟩
  have B2 := Aside0.mk (B1.out.trans (Below.mono d1.below B1.out.size))
  clear d1 B1
  go_wp2_with (at_builtin; refine Aside0.out (?_ : Aside0 _))
  refine ⟨?_⟩
  have R0 : Aside0 ((w2.alloc (.cells #[] 40)).ownsRow w.heap.size 40 2 (.slice (some ⟨w2.heap.size, 0, none⟩) 0 0) 0 (cells2 [])) := ⟨World.ownsRow_made w2 #[] 0 B2.out.size (by decide) rfl⟩
  have B3 := Aside0.mk (below_alloc B2.out (.cells #[] 40))
  refine append_any rfl (.tmp 23) (.tmp 24) rfl w.heap.size _ 0 [] rfl R0.out A n ca a rfl HN.out (HA.out.below B3.out) (fun h => ⟨by rw [← HN.out, (hAn h).1]; rfl, (hAn h).2⟩) (by have := HL.out; omega) B3.out.size ?_
  intro v3 w3 hr3 hb3
  have R3 : Aside0 (w3.ownsRow w.heap.size 40 2 v3 n (cells2 a)) := ⟨by simpa using hr3⟩
  have B4 := Aside0.mk (B3.out.trans hb3)
  clear hr3 hb3 R0 B3 B2 O0 O1 hAn hc q1 qw
  go_wp2_with fail
  go_loopg [6, 7] (m + 1) (fun g v i wr => ∃ k : Nat, g + k = m + 1 ∧ k ≤ m ∧ i = .int .i64 (k : Int) ∧ Aside0 (wr.ownsRow w.heap.size 40 2 v (n + k) (cells2 ((b.take k).foldl ins a))) ∧ Aside0 (Below w.heap.size w wr))
  case atStart => exact ⟨0, by omega, by omega, rfl, ⟨by simpa using R3.out⟩, B4⟩
  case round =>
    obtain ⟨k, hgk, hkm, rfl, RR, BR⟩ := hrel
    obtain ⟨wo, rfl⟩ : ∃ wo : World, wo = wr := ⟨_, rfl⟩
    have HG := Aside0.mk hgk
    clear hgk R3 B4
    by_cases hlt : k < m
    · have hlt' : ((k : Int) < (m : Int)) = True := by simp; omega
      obtain ⟨out, hout⟩ : ∃ out, (b.take k).foldl ins a = out := ⟨_, rfl⟩
      have hol : out.length = n + k := by have := RR.out.1; rw [hout, cells2_length] at this; omega
      have ro := RR.out
      rw [hout, ← hol] at ro
      obtain ⟨A', c', rfl, hc', hAR, hnone⟩ := AR.of_own ro
      have RO := Aside0.mk ro
      clear ro
      obtain ⟨⟨t, bb⟩, hp⟩ : ∃ p, b[k]? = some p := ⟨_, List.getElem?_eq_getElem (show k < b.length by rw [HM.out]; exact hlt)⟩
      have HO := Aside0.mk hout
      have HP := Aside0.mk hp
      have HAR := Aside0.mk hAR
      have HNO := Aside0.mk hnone
      have HOL := Aside0.mk hol
      clear hout hol hAR hnone hp RR
      go_wp2_with fail
      obtain ⟨N, hN⟩ : ∃ N, out.length = N := ⟨_, rfl⟩
      rw [hN] at hc' ⊢
      have HNL := Aside0.mk hN
      clear hN
      go_loopg [8] (N + 1) (fun g x wr => ∃ kk : Nat, g = kk + 1 ∧ kk ≤ N ∧ x = .int .i64 (kk : Int) ∧ Aside0 (pos out t kk = pos out t N) ∧ Aside0 (Drawn0 wo wr))
      case atStart => exact ⟨N, rfl, Nat.le_refl _, rfl, ⟨rfl⟩, ⟨Drawn0.refl _⟩⟩
      case round =>
        obtain ⟨kk, rfl, hkk, rfl, HPOS, HDR⟩ := hrel
        obtain ⟨wi, rfl⟩ : ∃ wi : World, wi = wr := ⟨_, rfl⟩
        by_cases h0 : kk = 0
        · subst h0
          go_wp2_with fail
          go_quiet (fail)
          go_upto_region 12 with fail
          have HARi : Aside0 (AR wi A' out) := ⟨HAR.out.below HDR.out.below⟩
          have HBi : Aside0 (AR wi B b) := ⟨HBB.out.below (BR.out.trans (HDR.out.below.mono BR.out.size))⟩
          have HRES : Aside0 (out.take 0 ++ [(t, bb)] ++ out.drop 0 = (b.take (k + 1)).foldl ins a) := ⟨ins_step HP.out HO.out HNL.out (HPOS.out.symm)⟩
          obtain ⟨xb, hxb, _, _⟩ := HBB.out k _ HP.out
          subst hxb
          have HI0 : Aside0 (Below wi.heap.size wi ((wi.drewN nq).drew)) := ⟨⟨rfl, rfl, rfl, Nat.le_refl _, fun _ _ => rfl⟩⟩
          refine wp_region_rjk (by kernel_rfl) 15 (fun W' => Below wi.heap.size wi W') (R12 wi.heap.size) kills12 (post12 wi.heap.size A' c' 0 N out t bb (some xb) m cb k xb) (by kernel_rfl) (r12_hR (by kernel_rfl) (by kernel_rfl) (by kernel_rfl) (by kernel_rfl) (by kernel_rfl) (by kernel_rfl) (by kernel_rfl) (by kernel_rfl) (by kernel_rfl)) HI0.out ?step ?fin
          case step =>
            intro i o hi him bx W' hinv hkeep hdef hpre K hK
            have HI := Aside0.mk hinv
            have HPRE := Aside0.mk hpre
            have HKEEP := Aside0.mk hkeep
            have HKK := Aside0.mk hK
            clear hinv hpre hkeep hK hdef
            obtain rfl | rfl | rfl | rfl | rfl | rfl | rfl | rfl | rfl | rfl | rfl | rfl | rfl | rfl | rfl : i = 0 ∨ i = 1 ∨ i = 2 ∨ i = 3 ∨ i = 4 ∨ i = 5 ∨ i = 6 ∨ i = 7 ∨ i = 8 ∨ i = 9 ∨ i = 10 ∨ i = 11 ∨ i = 12 ∨ i = 13 ∨ i = 14 := by omega
            · cases hi
              rw [if_pos (by rfl)]
              go_simp
              exact HKK.out _ _ (below_alloc HI.out _) (.new (by decide) (by decide) (by decide) HI.out.size (below_alloc (Below.refl _ W') _)) ⟨_, rfl, HI.out.size, heap_alloc_new W' _⟩
            · cases hi
              have e6 : bx.tmps.getD 6 undef = .slice A' N c' := HKEEP.out 6 (by kernel_rfl)
              rw [if_pos (by rfl)]
              go_simp
              exact HKK.out _ _ HI.out (.quiet (by decide) (by decide) (by decide)) rfl
            · cases hi
              have e8 : bx.tmps.getD 8 undef = .int .i64 (0 : Nat) := HKEEP.out 8 (by kernel_rfl)
              rw [if_pos (by rfl)]
              go_simp
              exact HKK.out _ _ HI.out (.quiet (by decide) (by decide) (by decide)) rfl
            · cases hi
              have e53 : bx.tmps.getD 53 undef = .slice A' N c' := HPRE.out 1 (by kernel_rfl) (by omega) (by intro _ h; simp [kills12, h])
              have e54 : bx.tmps.getD 54 undef = .int .i64 (0 : Nat) := HPRE.out 2 (by kernel_rfl) (by omega) (by intro _ h; simp [kills12, h])
              have hkc : 0 ≤ c' := Nat.le_trans hkk hc'
              rw [if_pos (by rfl)]
              go_simp
              exact HKK.out _ _ HI.out (.quiet (by decide) (by decide) (by decide)) rfl
            · cases hi
              obtain ⟨g, e52, hg, hh⟩ := HPRE.out 0 (by kernel_rfl) (by omega) (by intro _ h; simp [kills12, h])
              have e55 : bx.tmps.getD 55 undef = .slice A' 0 c' := HPRE.out 3 (by kernel_rfl) (by omega) (by intro _ h; simp [kills12, h])
              rw [if_pos (by rfl)]
              have hown : W'.ownsRow wi.heap.size 40 2 (.slice (some ⟨g, 0, none⟩) 0 0) 0 (cells2 []) := ⟨rfl, .inr ⟨g, 0, #[], rfl, hg, hh, Nat.le_refl _, by decide, rfl, rfl⟩⟩
              refine append_op (.tmp 52) (.tmp 55) rfl wi.heap.size _ 0 [] e52 hown A' 0 c' (out.take 0) e55 (by rw [List.length_take, HNL.out]; omega) ((HARi.out.below HI.out).take _) (fun h => ⟨rfl, (HNO.out h).2⟩) (by have := HNL.out; have := HOL.out; have := HL.out; omega) HI.out.size ?_
              intro v' w' h1 h2
              have hb : Below wi.heap.size W' w' := Below.grown (Below.refl _ _) h2 HI.out.size fun q hq => (hown.lt q hq).1
              refine HKK.out v' w' (HI.out.trans hb) ⟨hb, fun _ g' cs hcs hh' => (h2.block g' (blk_lt hh') (fun e => hcs (by cases e; rw [hh] at hh'; cases hh'; rfl))).trans hh', fun h => absurd h (by decide), fun h => absurd rfl h⟩ ?_
              show w'.ownsRow wi.heap.size 40 2 v' 0 (cells2 (out.take 0))
              simpa using h1
            · cases hi
              have e1 : bx.tmps.getD 1 undef = .slice (some xb) m cb := HKEEP.out 1 (by kernel_rfl)
              rw [if_pos (by rfl)]
              go_simp
              exact HKK.out _ _ HI.out (.quiet (by decide) (by decide) (by decide)) rfl
            · cases hi
              have e7 : bx.tmps.getD 7 undef = .int .i64 (k : Int) := HKEEP.out 7 (by kernel_rfl)
              rw [if_pos (by rfl)]
              go_simp
              exact HKK.out _ _ HI.out (.quiet (by decide) (by decide) (by decide)) rfl
            · cases hi
              have e57 : bx.tmps.getD 57 undef = .slice (some xb) m cb := HPRE.out 5 (by kernel_rfl) (by omega) (by intro _ h; simp [kills12, h])
              have e58 : bx.tmps.getD 58 undef = .int .i64 (k : Int) := HPRE.out 6 (by kernel_rfl) (by omega) (by intro _ h; simp [kills12, h])
              rw [if_pos (by rfl)]
              go_simp
              exact HKK.out _ _ HI.out (.quiet (by decide) (by decide) (by decide)) rfl
            · cases hi
              have e59 : bx.tmps.getD 59 undef = .pointer (some (xb.add (k * 2))) := HPRE.out 7 (by kernel_rfl) (by omega) (by intro _ h; simp [kills12, h])
              obtain ⟨y, hy, b0, b1⟩ := (HBi.out.below HI.out) k _ HP.out
              cases hy
              rw [← add_snd] at b1
              have b0' : W'.cell? (xb.add (k * 2)) = some (.int .u64 t) := b0
              have b1' : W'.cell? ⟨(xb.add (k * 2)).block, (xb.add (k * 2)).off + 1, none⟩ = some (.int .u8 bb) := b1
              rw [if_pos (by rfl)]
              go_simp
              exact HKK.out _ _ HI.out (.quiet (by decide) (by decide) (by decide)) rfl
            · cases hi
              have e60 : bx.tmps.getD 60 undef = .agg #[.int .u64 t, .int .u8 bb] := HPRE.out 8 (by kernel_rfl) (by omega) (by intro _ h; simp [kills12, h])
              rw [if_pos (by rfl)]
              refine wp_buildSlice 24 40 1 #[(0, .tmp 60)] rfl #[.int .u64 t, .int .u8 bb] i0 (.agg #[.int .u64 0, .int .u8 0]) Try.underlying24 hi0 hz0 (by rw [hz1]; decide) (by rw [hz1]; decide) (by rw [hz1]; simp only [List.map_toArray, List.map_cons, List.map_nil]; rw [show bx.eval (.tmp 60) = _ from e60]; kernel_rfl) ?_
              exact HKK.out _ _ (below_alloc HI.out _) (.new (by decide) (by decide) (by decide) HI.out.size (below_alloc (Below.refl _ W') _)) ⟨_, rfl, HI.out.size, heap_alloc_new W' _⟩
            · cases hi
              have o56 : W'.ownsRow wi.heap.size 40 2 (bx.tmps.getD 56 undef) 0 (cells2 (out.take 0)) := HPRE.out 4 (by kernel_rfl) (by omega) (by intro _ h; simp [kills12, h])
              obtain ⟨g, e61, hg, hh⟩ := HPRE.out 9 (by kernel_rfl) (by omega) (by intro _ h; simp [kills12, h])
              rw [if_pos (by rfl)]
              refine append_op (.tmp 56) (.tmp 61) rfl wi.heap.size _ 0 (out.take 0) rfl o56 (some ⟨g, 0, none⟩) 1 1 [(t, bb)] e61 rfl (AR.one hh) (fun h => by cases h) (by have := HNL.out; have := HOL.out; have := HL.out; omega) HI.out.size ?_
              intro v' w' h1 h2
              have hb : Below wi.heap.size W' w' := Below.grown (Below.refl _ _) h2 HI.out.size fun q hq => (o56.lt q hq).1
              exact HKK.out v' w' (HI.out.trans hb) ⟨hb, fun h => absurd h (by decide), fun h => absurd h (by decide), fun _ h => absurd rfl h⟩ h1
            · cases hi
              have e6 : bx.tmps.getD 6 undef = .slice A' N c' := HKEEP.out 6 (by kernel_rfl)
              rw [if_pos (by rfl)]
              go_simp
              exact HKK.out _ _ HI.out (.quiet (by decide) (by decide) (by decide)) rfl
            · cases hi
              have e8 : bx.tmps.getD 8 undef = .int .i64 (0 : Nat) := HKEEP.out 8 (by kernel_rfl)
              rw [if_pos (by rfl)]
              go_simp
              exact HKK.out _ _ HI.out (.quiet (by decide) (by decide) (by decide)) rfl
            · cases hi
              have e63 : bx.tmps.getD 63 undef = .slice A' N c' := HPRE.out 11 (by kernel_rfl) (by omega) (by intro _ h; simp [kills12, h])
              have e64 : bx.tmps.getD 64 undef = .int .i64 (0 : Nat) := HPRE.out 12 (by kernel_rfl) (by omega) (by intro _ h; simp [kills12, h])
              have hkc : 0 ≤ c' := Nat.le_trans hkk hc'
              rw [if_pos (by rfl)]
              go_simp
              exact HKK.out _ _ HI.out (.quiet (by decide) (by decide) (by decide)) ⟨_, _, rfl, (fun h => by have h1 := (HNO.out h).1; rw [h1] at HNL; have h2 := HNL.out; exact ⟨by simpa using h2.symm, (HNO.out h).2⟩), fun W hW => by simpa using hW⟩
            · cases hi
              have o62 : W'.ownsRow wi.heap.size 40 2 (bx.tmps.getD 62 undef) (0 + 1) (cells2 (out.take 0 ++ [(t, bb)])) := HPRE.out 10 (by kernel_rfl) (by omega) (by intro _ h; simp [kills12, h])
              obtain ⟨A2, c2, e65, hn2, har2⟩ := HPRE.out 13 (by kernel_rfl) (by omega) (by intro _ h; simp [kills12, h])
              rw [if_pos (by rfl)]
              obtain ⟨g62, cs62, og62, ne62, hh62, _⟩ := own_cur o62 (by omega)
              refine append_op (.tmp 62) (.tmp 65) rfl wi.heap.size _ (0 + 1) _ rfl o62 A2 (N - 0) c2 (out.drop 0) e65 (by rw [List.length_drop, HNL.out]) (har2 _ (HARi.out.below HI.out)) hn2 (by have := HNL.out; have := HOL.out; have := HL.out; omega) HI.out.size ?_
              intro v' w' h1 h2
              have hb : Below wi.heap.size W' w' := Below.grown (Below.refl _ _) h2 HI.out.size fun q hq => (o62.lt q hq).1
              have e1 : 0 + 1 + (N - 0) = N + 1 := by omega
              rw [e1] at h1
              exact HKK.out v' w' (HI.out.trans hb) ⟨hb, fun h => absurd h (by decide), fun _ g' hh' => (h2.block g' (blk_lt hh') (fun e => ne62 (by have e9 : some g' = some g62 := e.trans og62; cases e9; rw [hh62] at hh'; cases hh'; rfl))).trans hh', fun _ _ h => absurd rfl h⟩ h1
          case fin =>
            intro bx W' hinv hsz hdef hkeep hpost
            have o66 : W'.ownsRow wi.heap.size 40 2 (bx.tmps.getD 66 undef) (N + 1) (cells2 (out.take 0 ++ [(t, bb)] ++ out.drop 0)) := hpost 14 (by omega) (by intro q hq; simp [kills12])
            rw [HRES.out, show N + 1 = n + (k + 1) by have := HNL.out; have := HOL.out; omega] at o66
            have B66 := Aside0.mk ((BR.out.trans (HDR.out.below.mono BR.out.size)).trans (hinv.mono (Nat.le_trans BR.out.size HDR.out.below.size)))
            have O66 := Aside0.mk (own_mono o66 (Nat.le_trans BR.out.size HDR.out.below.size))
            obtain ⟨v66, e66⟩ : ∃ v, bx.tmps.getD 66 undef = v := ⟨_, rfl⟩
            rw [e66] at O66
            have k0 : bx.tmps.getD 0 undef = .slice A n ca := hkeep 0 (by kernel_rfl)
            have k1 : bx.tmps.getD 1 undef = .slice (some xb) m cb := hkeep 1 (by kernel_rfl)
            have k2 : bx.tmps.getD 2 undef = undef := hkeep 2 (by kernel_rfl)
            have k3 : bx.tmps.getD 3 undef = undef := hkeep 3 (by kernel_rfl)
            have k4 : bx.tmps.getD 4 undef = .slice none 0 0 := hkeep 4 (by kernel_rfl)
            have k5 : bx.tmps.getD 5 undef = .int .i64 0 := hkeep 5 (by kernel_rfl)
            have k7 : bx.tmps.getD 7 undef = .int .i64 (k : Int) := hkeep 7 (by kernel_rfl)
            have k9 : bx.tmps.getD 9 undef = .slice A n ca := hkeep 9 (by kernel_rfl)
            have k10 : bx.tmps.getD 10 undef = .bool true := hkeep 10 (by kernel_rfl)
            have k11 : bx.tmps.getD 11 undef = .bool false := hkeep 11 (by kernel_rfl)
            have k12 : bx.tmps.getD 12 undef = .bool false := hkeep 12 (by kernel_rfl)
            have k13 : bx.tmps.getD 13 undef = .slice (some xb) m cb := hkeep 13 (by kernel_rfl)
            have k14 : bx.tmps.getD 14 undef = .bool true := hkeep 14 (by kernel_rfl)
            have k15 : bx.tmps.getD 15 undef = .bool false := hkeep 15 (by kernel_rfl)
            have k16 : bx.tmps.getD 16 undef = .bool false := hkeep 16 (by kernel_rfl)
            have k17 : bx.tmps.getD 17 undef = .slice A n ca := hkeep 17 (by kernel_rfl)
            have k18 : bx.tmps.getD 18 undef = .int .i64 (n : Int) := hkeep 18 (by kernel_rfl)
            have k19 : bx.tmps.getD 19 undef = .slice (some xb) m cb := hkeep 19 (by kernel_rfl)
            have k20 : bx.tmps.getD 20 undef = .int .i64 (m : Int) := hkeep 20 (by kernel_rfl)
            have k21 : bx.tmps.getD 21 undef = .int .i64 (wrap64 ((n : Int) + (m : Int))) := hkeep 21 (by kernel_rfl)
            have k22 : bx.tmps.getD 22 undef = .bool false := hkeep 22 (by kernel_rfl)
            have k23 : bx.tmps.getD 23 undef = .slice (some ⟨w2.heap.size, 0, none⟩) 0 0 := hkeep 23 (by kernel_rfl)
            have k24 : bx.tmps.getD 24 undef = .slice A n ca := hkeep 24 (by kernel_rfl)
            have k25 : bx.tmps.getD 25 undef = v3 := hkeep 25 (by kernel_rfl)
            have k67 : bx.tmps.getD 67 undef = undef := hkeep 67 (by kernel_rfl)
            refine rj_lastv (by kernel_rfl) rfl (by kernel_rfl) rfl (by kernel_rfl) ?_
            obtain ⟨sl, hlit, hsl⟩ := act_let bx 68 hsz
            rw [hdef] at hlit
            rw [← hsl] at e66 k0 k1 k2 k3 k4 k5 k7 k9 k10 k11 k12 k13 k14 k15 k16 k17 k18 k19 k20 k21 k22 k23 k24 k25 k67
            simp only [show List.range 68 = [0, 1, 2, 3, 4, 5, 6, 7, 8, 9, 10, 11, 12, 13, 14, 15, 16, 17, 18, 19, 20, 21, 22, 23, 24, 25, 26, 27, 28, 29, 30, 31, 32, 33, 34, 35, 36, 37, 38, 39, 40, 41, 42, 43, 44, 45, 46, 47, 48, 49, 50, 51, 52, 53, 54, 55, 56, 57, 58, 59, 60, 61, 62, 63, 64, 65, 66, 67] from rfl, List.map_cons, List.map_nil, e66, k0, k1, k2, k3, k4, k5, k7, k9, k10, k11, k12, k13, k14, k15, k16, k17, k18, k19, k20, k21, k22, k23, k24, k25, k67] at hlit
            rw [hlit]
            have e2 : wrap64 ((k : Int) + 1) = ((k + 1 : Nat) : Int) := by have := HL.out; unfold wrap64; omega
            clear hkeep hsz hdef e66 k0 k1 k2 k3 k4 k5 k7 k9 k10 k11 k12 k13 k14 k15 k16 k17 k18 k19 k20 k21 k22 k23 k24 k25 k67 hsl hlit hpost hinv o66 HARi HBi
            go_simp
            go_wp2_with fail
            have HG2 := HG.out
            have E2 := Aside0.mk e2
            clear e2
            go_roundg (gk - 1)
            case measure => omega
            case rel => exact ⟨k + 1, by omega, by omega, by first | exact congrArg (Value.int .i64) E2.out | (congr 1; done), O66, B66⟩
        · obtain ⟨j, hj⟩ : ∃ j, kk = j + 1 := ⟨kk - 1, by omega⟩
          have q0 : 0 < kk := by omega
          have e1 : wrap64 ((kk : Int) - 1) = (j : Int) := by have := HNL.out; have := HOL.out; have := HL.out; unfold wrap64; omega
          have hjN : ((j : Int) < (N : Int)) := by omega
          obtain ⟨⟨tk, bk⟩, hq⟩ : ∃ p, out[j]? = some p := ⟨_, List.getElem?_eq_getElem (show j < out.length by rw [HNL.out]; omega)⟩
          obtain ⟨xa, hxa, a0, a1⟩ := HAR.out j _ hq
          subst hxa
          obtain ⟨xb, hxb, b0, b1⟩ := HBB.out k _ HP.out
          subst hxb
          have a0' : wi.cell? (xa.add (j * 2)) = some (.int .u64 tk) := pw_cell_below HDR.out.below a0
          have b0' : wi.cell? (xb.add (k * 2)) = some (.int .u64 t) := pw_cell_below (BR.out.trans (HDR.out.below.mono BR.out.size)) b0
          have HQ := Aside0.mk hq
          have HJ := Aside0.mk hj
          clear a0 a1 b0 b1 hq hj h0
          by_cases hgt : t < tk
          · go_wp2_with fail
            go_quiet (fail)
            go_wp2_with fail
            have HGT := Aside0.mk hgt
            go_roundg kk
            case measure => omega
            case rel => exact ⟨j, HJ.out, by have := HJ.out; omega, by rw [e1], ⟨by have := HPOS.out; rw [HJ.out] at this; rw [← this, pos, if_pos (by rw [List.getD_eq_getElem?_getD, HQ.out]; exact HGT.out)]⟩, ⟨HDR.out.step _⟩⟩
          · have hgt' : tk ≤ t := by omega
            go_wp2_with fail
            go_quiet (fail)
            go_upto_region 12 with fail
            have HARi : Aside0 (AR wi (some xa) out) := ⟨HAR.out.below HDR.out.below⟩
            have HBi : Aside0 (AR wi (some xb) b) := ⟨HBB.out.below (BR.out.trans (HDR.out.below.mono BR.out.size))⟩
            have HRES : Aside0 (out.take kk ++ [(t, bb)] ++ out.drop kk = (b.take (k + 1)).foldl ins a) := ⟨ins_step HP.out HO.out HNL.out (HPOS.out.symm.trans (by rw [HJ.out, pos, if_neg (by rw [List.getD_eq_getElem?_getD, HQ.out]; show ¬ tk > t; omega)]))⟩
            have HI0 : Aside0 (Below wi.heap.size wi ((wi.drewN nq).drew)) := ⟨⟨rfl, rfl, rfl, Nat.le_refl _, fun _ _ => rfl⟩⟩
            refine wp_region_rjk (by kernel_rfl) 15 (fun W' => Below wi.heap.size wi W') (R12 wi.heap.size) kills12 (post12 wi.heap.size (some xa) c' kk N out t bb (some xb) m cb k xb) (by kernel_rfl) (r12_hR (by kernel_rfl) (by kernel_rfl) (by kernel_rfl) (by kernel_rfl) (by kernel_rfl) (by kernel_rfl) (by kernel_rfl) (by kernel_rfl) (by kernel_rfl)) HI0.out ?step ?fin
            case step =>
              intro i o hi him bx W' hinv hkeep hdef hpre K hK
              have HI := Aside0.mk hinv
              have HPRE := Aside0.mk hpre
              have HKEEP := Aside0.mk hkeep
              have HKK := Aside0.mk hK
              clear hinv hpre hkeep hK hdef
              obtain rfl | rfl | rfl | rfl | rfl | rfl | rfl | rfl | rfl | rfl | rfl | rfl | rfl | rfl | rfl : i = 0 ∨ i = 1 ∨ i = 2 ∨ i = 3 ∨ i = 4 ∨ i = 5 ∨ i = 6 ∨ i = 7 ∨ i = 8 ∨ i = 9 ∨ i = 10 ∨ i = 11 ∨ i = 12 ∨ i = 13 ∨ i = 14 := by omega
              · cases hi
                rw [if_pos (by rfl)]
                go_simp
                exact HKK.out _ _ (below_alloc HI.out _) (.new (by decide) (by decide) (by decide) HI.out.size (below_alloc (Below.refl _ W') _)) ⟨_, rfl, HI.out.size, heap_alloc_new W' _⟩
              · cases hi
                have e6 : bx.tmps.getD 6 undef = .slice (some xa) N c' := HKEEP.out 6 (by kernel_rfl)
                rw [if_pos (by rfl)]
                go_simp
                exact HKK.out _ _ HI.out (.quiet (by decide) (by decide) (by decide)) rfl
              · cases hi
                have e8 : bx.tmps.getD 8 undef = .int .i64 (kk : Nat) := HKEEP.out 8 (by kernel_rfl)
                rw [if_pos (by rfl)]
                go_simp
                exact HKK.out _ _ HI.out (.quiet (by decide) (by decide) (by decide)) rfl
              · cases hi
                have e53 : bx.tmps.getD 53 undef = .slice (some xa) N c' := HPRE.out 1 (by kernel_rfl) (by omega) (by intro _ h; simp [kills12, h])
                have e54 : bx.tmps.getD 54 undef = .int .i64 (kk : Nat) := HPRE.out 2 (by kernel_rfl) (by omega) (by intro _ h; simp [kills12, h])
                have hkc : kk ≤ c' := Nat.le_trans hkk hc'
                rw [if_pos (by rfl)]
                go_simp
                exact HKK.out _ _ HI.out (.quiet (by decide) (by decide) (by decide)) rfl
              · cases hi
                obtain ⟨g, e52, hg, hh⟩ := HPRE.out 0 (by kernel_rfl) (by omega) (by intro _ h; simp [kills12, h])
                have e55 : bx.tmps.getD 55 undef = .slice (some xa) kk c' := HPRE.out 3 (by kernel_rfl) (by omega) (by intro _ h; simp [kills12, h])
                rw [if_pos (by rfl)]
                have hown : W'.ownsRow wi.heap.size 40 2 (.slice (some ⟨g, 0, none⟩) 0 0) 0 (cells2 []) := ⟨rfl, .inr ⟨g, 0, #[], rfl, hg, hh, Nat.le_refl _, by decide, rfl, rfl⟩⟩
                refine append_op (.tmp 52) (.tmp 55) rfl wi.heap.size _ 0 [] e52 hown (some xa) kk c' (out.take kk) e55 (by rw [List.length_take, HNL.out]; omega) ((HARi.out.below HI.out).take _) (fun h => by cases h) (by have := HNL.out; have := HOL.out; have := HL.out; omega) HI.out.size ?_
                intro v' w' h1 h2
                have hb : Below wi.heap.size W' w' := Below.grown (Below.refl _ _) h2 HI.out.size fun q hq => (hown.lt q hq).1
                refine HKK.out v' w' (HI.out.trans hb) ⟨hb, fun _ g' cs hcs hh' => (h2.block g' (blk_lt hh') (fun e => hcs (by cases e; rw [hh] at hh'; cases hh'; rfl))).trans hh', fun h => absurd h (by decide), fun h => absurd rfl h⟩ ?_
                show w'.ownsRow wi.heap.size 40 2 v' kk (cells2 (out.take kk))
                simpa using h1
              · cases hi
                have e1 : bx.tmps.getD 1 undef = .slice (some xb) m cb := HKEEP.out 1 (by kernel_rfl)
                rw [if_pos (by rfl)]
                go_simp
                exact HKK.out _ _ HI.out (.quiet (by decide) (by decide) (by decide)) rfl
              · cases hi
                have e7 : bx.tmps.getD 7 undef = .int .i64 (k : Int) := HKEEP.out 7 (by kernel_rfl)
                rw [if_pos (by rfl)]
                go_simp
                exact HKK.out _ _ HI.out (.quiet (by decide) (by decide) (by decide)) rfl
              · cases hi
                have e57 : bx.tmps.getD 57 undef = .slice (some xb) m cb := HPRE.out 5 (by kernel_rfl) (by omega) (by intro _ h; simp [kills12, h])
                have e58 : bx.tmps.getD 58 undef = .int .i64 (k : Int) := HPRE.out 6 (by kernel_rfl) (by omega) (by intro _ h; simp [kills12, h])
                rw [if_pos (by rfl)]
                go_simp
                exact HKK.out _ _ HI.out (.quiet (by decide) (by decide) (by decide)) rfl
              · cases hi
                have e59 : bx.tmps.getD 59 undef = .pointer (some (xb.add (k * 2))) := HPRE.out 7 (by kernel_rfl) (by omega) (by intro _ h; simp [kills12, h])
                obtain ⟨y, hy, b0, b1⟩ := (HBi.out.below HI.out) k _ HP.out
                cases hy
                rw [← add_snd] at b1
                have b0' : W'.cell? (xb.add (k * 2)) = some (.int .u64 t) := b0
                have b1' : W'.cell? ⟨(xb.add (k * 2)).block, (xb.add (k * 2)).off + 1, none⟩ = some (.int .u8 bb) := b1
                rw [if_pos (by rfl)]
                go_simp
                exact HKK.out _ _ HI.out (.quiet (by decide) (by decide) (by decide)) rfl
              · cases hi
                have e60 : bx.tmps.getD 60 undef = .agg #[.int .u64 t, .int .u8 bb] := HPRE.out 8 (by kernel_rfl) (by omega) (by intro _ h; simp [kills12, h])
                rw [if_pos (by rfl)]
                refine wp_buildSlice 24 40 1 #[(0, .tmp 60)] rfl #[.int .u64 t, .int .u8 bb] i0 (.agg #[.int .u64 0, .int .u8 0]) Try.underlying24 hi0 hz0 (by rw [hz1]; decide) (by rw [hz1]; decide) (by rw [hz1]; simp only [List.map_toArray, List.map_cons, List.map_nil]; rw [show bx.eval (.tmp 60) = _ from e60]; kernel_rfl) ?_
                exact HKK.out _ _ (below_alloc HI.out _) (.new (by decide) (by decide) (by decide) HI.out.size (below_alloc (Below.refl _ W') _)) ⟨_, rfl, HI.out.size, heap_alloc_new W' _⟩
              · cases hi
                have o56 : W'.ownsRow wi.heap.size 40 2 (bx.tmps.getD 56 undef) kk (cells2 (out.take kk)) := HPRE.out 4 (by kernel_rfl) (by omega) (by intro _ h; simp [kills12, h])
                obtain ⟨g, e61, hg, hh⟩ := HPRE.out 9 (by kernel_rfl) (by omega) (by intro _ h; simp [kills12, h])
                rw [if_pos (by rfl)]
                refine append_op (.tmp 56) (.tmp 61) rfl wi.heap.size _ kk (out.take kk) rfl o56 (some ⟨g, 0, none⟩) 1 1 [(t, bb)] e61 rfl (AR.one hh) (fun h => by cases h) (by have := HNL.out; have := HOL.out; have := HL.out; omega) HI.out.size ?_
                intro v' w' h1 h2
                have hb : Below wi.heap.size W' w' := Below.grown (Below.refl _ _) h2 HI.out.size fun q hq => (o56.lt q hq).1
                exact HKK.out v' w' (HI.out.trans hb) ⟨hb, fun h => absurd h (by decide), fun h => absurd h (by decide), fun _ h => absurd rfl h⟩ h1
              · cases hi
                have e6 : bx.tmps.getD 6 undef = .slice (some xa) N c' := HKEEP.out 6 (by kernel_rfl)
                rw [if_pos (by rfl)]
                go_simp
                exact HKK.out _ _ HI.out (.quiet (by decide) (by decide) (by decide)) rfl
              · cases hi
                have e8 : bx.tmps.getD 8 undef = .int .i64 (kk : Nat) := HKEEP.out 8 (by kernel_rfl)
                rw [if_pos (by rfl)]
                go_simp
                exact HKK.out _ _ HI.out (.quiet (by decide) (by decide) (by decide)) rfl
              · cases hi
                have e63 : bx.tmps.getD 63 undef = .slice (some xa) N c' := HPRE.out 11 (by kernel_rfl) (by omega) (by intro _ h; simp [kills12, h])
                have e64 : bx.tmps.getD 64 undef = .int .i64 (kk : Nat) := HPRE.out 12 (by kernel_rfl) (by omega) (by intro _ h; simp [kills12, h])
                have hkc : kk ≤ c' := Nat.le_trans hkk hc'
                rw [if_pos (by rfl)]
                go_simp
                refine HKK.out _ _ HI.out (.quiet (by decide) (by decide) (by decide)) ⟨_, _, rfl, (fun h => by split at h <;> cases h), fun W hW => ?_⟩
                split
                · have h9 : out.drop kk = [] := List.drop_eq_nil_of_le (by rw [HNL.out]; omega)
                  rw [h9]; intro i p hp; simp at hp
                · exact hW.drop kk
              · cases hi
                have o62 : W'.ownsRow wi.heap.size 40 2 (bx.tmps.getD 62 undef) (kk + 1) (cells2 (out.take kk ++ [(t, bb)])) := HPRE.out 10 (by kernel_rfl) (by omega) (by intro _ h; simp [kills12, h])
                obtain ⟨A2, c2, e65, hn2, har2⟩ := HPRE.out 13 (by kernel_rfl) (by omega) (by intro _ h; simp [kills12, h])
                rw [if_pos (by rfl)]
                obtain ⟨g62, cs62, og62, ne62, hh62, _⟩ := own_cur o62 (by omega)
                refine append_op (.tmp 62) (.tmp 65) rfl wi.heap.size _ (kk + 1) _ rfl o62 A2 (N - kk) c2 (out.drop kk) e65 (by rw [List.length_drop, HNL.out]) (har2 _ (HARi.out.below HI.out)) hn2 (by have := HNL.out; have := HOL.out; have := HL.out; omega) HI.out.size ?_
                intro v' w' h1 h2
                have hb : Below wi.heap.size W' w' := Below.grown (Below.refl _ _) h2 HI.out.size fun q hq => (o62.lt q hq).1
                have e1 : kk + 1 + (N - kk) = N + 1 := by omega
                rw [e1] at h1
                exact HKK.out v' w' (HI.out.trans hb) ⟨hb, fun h => absurd h (by decide), fun _ g' hh' => (h2.block g' (blk_lt hh') (fun e => ne62 (by have e9 : some g' = some g62 := e.trans og62; cases e9; rw [hh62] at hh'; cases hh'; rfl))).trans hh', fun _ _ h => absurd rfl h⟩ h1
            case fin =>
              intro bx W' hinv hsz hdef hkeep hpost
              have o66 : W'.ownsRow wi.heap.size 40 2 (bx.tmps.getD 66 undef) (N + 1) (cells2 (out.take kk ++ [(t, bb)] ++ out.drop kk)) := hpost 14 (by omega) (by intro q hq; simp [kills12])
              rw [HRES.out, show N + 1 = n + (k + 1) by have := HNL.out; have := HOL.out; omega] at o66
              have B66 := Aside0.mk ((BR.out.trans (HDR.out.below.mono BR.out.size)).trans (hinv.mono (Nat.le_trans BR.out.size HDR.out.below.size)))
              have O66 := Aside0.mk (own_mono o66 (Nat.le_trans BR.out.size HDR.out.below.size))
              obtain ⟨v66, e66⟩ : ∃ v, bx.tmps.getD 66 undef = v := ⟨_, rfl⟩
              rw [e66] at O66
              have k0 : bx.tmps.getD 0 undef = .slice A n ca := hkeep 0 (by kernel_rfl)
              have k1 : bx.tmps.getD 1 undef = .slice (some xb) m cb := hkeep 1 (by kernel_rfl)
              have k2 : bx.tmps.getD 2 undef = undef := hkeep 2 (by kernel_rfl)
              have k3 : bx.tmps.getD 3 undef = undef := hkeep 3 (by kernel_rfl)
              have k4 : bx.tmps.getD 4 undef = .slice none 0 0 := hkeep 4 (by kernel_rfl)
              have k5 : bx.tmps.getD 5 undef = .int .i64 0 := hkeep 5 (by kernel_rfl)
              have k7 : bx.tmps.getD 7 undef = .int .i64 (k : Int) := hkeep 7 (by kernel_rfl)
              have k9 : bx.tmps.getD 9 undef = .slice A n ca := hkeep 9 (by kernel_rfl)
              have k10 : bx.tmps.getD 10 undef = .bool true := hkeep 10 (by kernel_rfl)
              have k11 : bx.tmps.getD 11 undef = .bool false := hkeep 11 (by kernel_rfl)
              have k12 : bx.tmps.getD 12 undef = .bool false := hkeep 12 (by kernel_rfl)
              have k13 : bx.tmps.getD 13 undef = .slice (some xb) m cb := hkeep 13 (by kernel_rfl)
              have k14 : bx.tmps.getD 14 undef = .bool true := hkeep 14 (by kernel_rfl)
              have k15 : bx.tmps.getD 15 undef = .bool false := hkeep 15 (by kernel_rfl)
              have k16 : bx.tmps.getD 16 undef = .bool false := hkeep 16 (by kernel_rfl)
              have k17 : bx.tmps.getD 17 undef = .slice A n ca := hkeep 17 (by kernel_rfl)
              have k18 : bx.tmps.getD 18 undef = .int .i64 (n : Int) := hkeep 18 (by kernel_rfl)
              have k19 : bx.tmps.getD 19 undef = .slice (some xb) m cb := hkeep 19 (by kernel_rfl)
              have k20 : bx.tmps.getD 20 undef = .int .i64 (m : Int) := hkeep 20 (by kernel_rfl)
              have k21 : bx.tmps.getD 21 undef = .int .i64 (wrap64 ((n : Int) + (m : Int))) := hkeep 21 (by kernel_rfl)
              have k22 : bx.tmps.getD 22 undef = .bool false := hkeep 22 (by kernel_rfl)
              have k23 : bx.tmps.getD 23 undef = .slice (some ⟨w2.heap.size, 0, none⟩) 0 0 := hkeep 23 (by kernel_rfl)
              have k24 : bx.tmps.getD 24 undef = .slice A n ca := hkeep 24 (by kernel_rfl)
              have k25 : bx.tmps.getD 25 undef = v3 := hkeep 25 (by kernel_rfl)
              have k67 : bx.tmps.getD 67 undef = undef := hkeep 67 (by kernel_rfl)
              refine rj_lastv (by kernel_rfl) rfl (by kernel_rfl) rfl (by kernel_rfl) ?_
              obtain ⟨sl, hlit, hsl⟩ := act_let bx 68 hsz
              rw [hdef] at hlit
              rw [← hsl] at e66 k0 k1 k2 k3 k4 k5 k7 k9 k10 k11 k12 k13 k14 k15 k16 k17 k18 k19 k20 k21 k22 k23 k24 k25 k67
              simp only [show List.range 68 = [0, 1, 2, 3, 4, 5, 6, 7, 8, 9, 10, 11, 12, 13, 14, 15, 16, 17, 18, 19, 20, 21, 22, 23, 24, 25, 26, 27, 28, 29, 30, 31, 32, 33, 34, 35, 36, 37, 38, 39, 40, 41, 42, 43, 44, 45, 46, 47, 48, 49, 50, 51, 52, 53, 54, 55, 56, 57, 58, 59, 60, 61, 62, 63, 64, 65, 66, 67] from rfl, List.map_cons, List.map_nil, e66, k0, k1, k2, k3, k4, k5, k7, k9, k10, k11, k12, k13, k14, k15, k16, k17, k18, k19, k20, k21, k22, k23, k24, k25, k67] at hlit
              rw [hlit]
              have e2 : wrap64 ((k : Int) + 1) = ((k + 1 : Nat) : Int) := by have := HL.out; unfold wrap64; omega
              clear hkeep hsz hdef e66 k0 k1 k2 k3 k4 k5 k7 k9 k10 k11 k12 k13 k14 k15 k16 k17 k18 k19 k20 k21 k22 k23 k24 k25 k67 hsl hlit hpost hinv o66 HARi HBi
              go_simp
              go_wp2_with fail
              clear e1 hjN hgt hgt' q0 a0' b0'
              have HG2 := HG.out
              have E2 := Aside0.mk e2
              clear e2
              go_roundg (gk - 1)
              case measure => omega
              case rel => exact ⟨k + 1, by omega, by omega, by first | exact congrArg (Value.int .i64) E2.out | (congr 1; done), O66, B66⟩
    · obtain rfl : k = m := by omega
      have hlt' : ((k : Int) < (k : Int)) = False := by simp
      clear hlt
      go_wp2_with fail
      try rw [Exit.noGoto_ret]
      refine bodyPost_ret (results_tmp2 rfl _ _ _) rfl ?_
      refine ⟨⟨_, rfl, ?_⟩, BR.out⟩
      have := RR.out
      rwa [List.take_of_length_le (by rw [HM.out]; exact Nat.le_refl _)] at this
end Go.Proofs.Ytdalboofhckobab
