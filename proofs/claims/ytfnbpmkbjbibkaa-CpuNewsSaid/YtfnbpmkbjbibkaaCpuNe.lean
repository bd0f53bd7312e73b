/- The law CpuNews: the machine of any size, image and arrivals. Printed by wip/tools/gen_cpunews.py. (PK=QCpuNews) -/
import Derived.Test.YtfnbpmkbjbibkaaCpuNw
import Derived.Test.YtfnbpmkbjbibkaaCpuRNew
import Derived.Test.YtfnbpmkbjbibkaaOpensMix
namespace Go.Proofs.Ytfnbpmkbjbibkaa
open Go Go.RowKit Go.Deep Go.Great Go.Proofs.YtfnbpmkbjbibkaaW.PrintWords Go.Proofs.Ytfnbpmkbjbibkaa.QCpuNews
set_option linter.unusedVariables false
set_option linter.unusedSimpArgs false

def kW : List (Option IntKind) := [some .u64, some .u64, some .u64, some .u32]
theorem kW_of : kindsOf Try.prog 20 67 = some kW := by kernel_rfl
theorem kW_fit (a b c d : Int) : Fits kW [.int .u64 a, .int .u64 b, .int .u64 c, .int .u32 d] := .cons ⟨_, rfl⟩ (.cons ⟨_, rfl⟩ (.cons ⟨_, rfl⟩ (.cons ⟨_, rfl⟩ .nil)))
theorem rZ_fits : Fits (List.replicate 32 (some .u32)) rZ := fits_ints .u32 (List.replicate 32 0)
theorem fN_fits : Fits kF fN := .cons ⟨_, rfl⟩ (.cons ⟨_, rfl⟩ (.cons ⟨_, rfl⟩ (.cons ⟨_, rfl⟩ (.cons ⟨_, rfl⟩ (.cons ⟨_, rfl⟩ (.cons ⟨_, rfl⟩ (.cons ⟨_, rfl⟩ (.cons ⟨_, rfl⟩ .nil))))))))
/-- The parts of an argument. -/
def prts (len : Nat) (f : Nat → Nat → Int) (nn : Nat → Nat) (b : Nat → List Int) : List S51 := (List.range len).map fun i => ⟨f i 0, (b i).take (nn i)⟩
section
variable {w : World} {A : Option Addr} {len cap : Nat} {f : Nat → Nat → Int} {p : Nat → Option Addr} {nn c : Nat → Nat} {b : Nat → List Int}
theorem prts_len : (prts len f nn b).length = len := by simp [prts]
theorem prts_at {i : Nat} (h : i < len) : (prts len f nn b)[i]? = some ⟨f i 0, (b i).take (nn i)⟩ := by simp [prts, h]
theorem mix_C (h : IsMix [.u32] w A len cap f p nn c b) : Kd.C k51 w A (prts len f nn b).length (prts len f nn b) := by
  have hl : (prts len f nn b).length = len := prts_len
  rcases h with ⟨rfl, rfl, rfl⟩ | ⟨x, rfl, hlc, hm, hc⟩
  · exact ⟨rfl, by simp [prts], fun h => absurd h (by simp [prts])⟩
  · refine ⟨rfl, by rw [hl]; unfold maxLen at hm; omega, fun _ => ⟨x, rfl, fun j p hp => ?_⟩⟩
    have hj : j < len := by have := (List.getElem?_eq_some_iff.1 hp).1; rwa [hl] at this
    obtain rfl := (Option.some.inj ((prts_at hj).symm.trans hp)).symm
    obtain ⟨h1, h2, h3⟩ := hc j (by omega)
    obtain ⟨g1, g2, g3⟩ := row_C h3
    refine ⟨_, rfl, k51_mk w ⟨f j 0, (b j).take (nn j)⟩ (A1 := _) (c1 := c j) (by simp only; omega) g1, fun i u hu => ?_⟩
    have hi : i = 0 ∨ i = 1 := by
      have := (List.getElem?_eq_some_iff.1 hu).1
      simp at this; omega
    rcases hi with rfl | rfl
    · simp at hu; subst hu; exact (h1 0 .u32 rfl).1
    · obtain rfl := (Option.some.inj hu).symm
      show w.cell? (x.add (j * 2 + 1)) = some (.slice (p j) ((b j).take (nn j)).length (c j))
      rw [g2]
      exact h2
theorem mix_PW (h : IsMix [.u32] w A len cap f p nn c b) : PW (prts len f nn b) := by
  intro q hq
  obtain ⟨i, hi, rfl⟩ := List.mem_map.1 hq
  rw [List.mem_range] at hi
  obtain ⟨x, rfl, hx⟩ := h.at_ hi
  obtain ⟨h1, h2, h3⟩ := hx
  have h4 := (h1 0 .u32 rfl).2
  obtain ⟨g1, g2, g3⟩ := row_C h3
  simp [Lit.wf, IntKind.min, IntKind.max, IntKind.bits, IntKind.signed] at h4
  show (0 ≤ f i 0 ∧ f i 0 < 4294967296) ∧ ((b i).take (nn i)).length ≤ 9223372036854775807
  exact ⟨by omega, g1.2.1⟩
theorem mix_V (h : IsMix [.u32] w A len cap f p nn c b) (base : Nat) : Kd.V k51 51 w base (fun _ => True) (.slice A (prts len f nn b).length cap) (prts len f nn b) :=
  Kd.V_mk (by rw [prts_len]; exact h.le.1) fun W' hW => (Kd.heap_iso _ (Kd.heap_pair (Kd.heap_int _) (Kd.heap_slice _ (Kd.heap_int _)))).C (fun k hk => hW k trivial hk) (mix_C h)
end
theorem own_C {w : World} {base n : Nat} {A : Option Addr} {c : Nat} {l : List Int} (h : w.ownsRow base 5 1 (.slice A n c) n (l.map (Value.int .u8))) (hn : l.length = n) (hm : n ≤ 65536) : (Kd.int .u8).C w A l.length l ∧ l.length ≤ c := by
  subst hn
  rcases h.2 with ⟨he, h0⟩ | ⟨g, cap, cur, he, _, _, hc, _⟩
  · obtain rfl : l = [] := List.eq_nil_of_length_eq_zero h0
    cases he
    exact ⟨Kd.C_nil _ _, Nat.zero_le _⟩
  · cases he
    refine ⟨?_, hc⟩
    refine ⟨rfl, by omega, fun _ => ⟨_, rfl, fun j p hp => ⟨[.int .u8 p], rfl, rfl, fun i u hu => ?_⟩⟩⟩
    have hi : i = 0 := by
      have := (List.getElem?_eq_some_iff.1 hu).1
      simp at this; omega
    subst hi
    simp at hu
    subst hu
    have := h.cells rfl j (Value.int .u8 p) (by rw [List.getElem?_map, hp]; rfl)
    rw [show j * (Kd.int IntKind.u8).sz + 0 = j by show j * 1 + 0 = j; omega]
    exact this
theorem rsin_of {w0 w : World} {base n cR : Nat} {AR A0 A2 A3 A4 : Option Addr} {c0 c2 c3 c4 : Nat} {l : List Int} (h : l.length = n ∧ n ≤ 65536 ∧ l.length ≤ cR ∧ (Kd.int .u8).C w0 AR l.length l) (hb : Below w0.heap.size w0 w)
    (o1 : w.ownsRow base 5 1 (.slice A0 n c0) n (l.map (Value.int .u8))) (o2 : w.ownsRow base 5 1 (.slice A2 0 c2) 0 []) (o3 : w.ownsRow base 5 1 (.slice A3 0 c3) 0 []) (eo : EO base w (.slice A4 0 c4) []) :
    RSin w (.slice A0 n c0) (.slice AR n cR) (.slice A2 0 c2) (.slice none 0 0) (.slice A3 0 c3) (.slice none 0 0) (.slice A4 0 c4) (.slice none 0 0) := by
  obtain ⟨h1, h2, h3, h4⟩ := h
  have e0 : ∀ w', Calls Try.prog 58 #[.slice none 0 0, .slice none 0 0] w' fun e w'' => e = .returned (.bool true) ∧ Below w'.heap.size w' w'' := fun w' =>
    (mimesisref01_SameBytes.calls 3 none 0 [] none 0 [] true w' (Kd.C_nil _ _) (Nat.le_refl _) (Kd.C_nil _ _) (Nat.le_refl _) rfl).mono fun e w2 ⟨a, b⟩ => ⟨a, b.below⟩
  have e1 : ∀ (w' : World) (A : Option Addr) (c : Nat), w'.ownsRow base 5 1 (.slice A 0 c) 0 [] → Calls Try.prog 58 #[.slice A 0 c, .slice none 0 0] w' fun e w'' => e = .returned (.bool true) ∧ Below w'.heap.size w' w'' := fun w' A c ho => by
    obtain ⟨g1, g2⟩ := own_C (l := []) ho rfl (by decide)
    exact (mimesisref01_SameBytes.calls 3 A c [] none 0 [] true w' g1 g2 (Kd.C_nil _ _) (Nat.le_refl _) rfl).mono fun e w2 ⟨a, b⟩ => ⟨a, b.below⟩
  refine ⟨fun w' d => ?_, fun w' d => e1 w' _ _ (owns_below o2 d), fun w' d => e1 w' _ _ (owns_below o3 d), fun w' d => ?_⟩
  · obtain ⟨g1, g2⟩ := own_C (owns_below o1 d) h1 h2
    have := mimesisref01_SameBytes.calls (l.length + 1) A0 c0 l AR cR l true w' g1 g2 (Kd.C_below (Kd.C_below h4 hb) d) h3 (con_same_self l (by omega))
    rw [h1] at this
    exact this.mono fun e w2 ⟨a, b⟩ => ⟨a, b.below⟩
  · obtain ⟨A, c, he, _, _, hes⟩ := (eo.below d).es
    cases he
    exact (rsameev_calls w' A4 none c4 0 [] [] hes (ES.nil _ _) (by decide) (by decide)).mono fun e w2 ⟨x, a, b, c⟩ => ⟨by rw [a, b.2 rfl], c.below⟩
def postNe (p n base : Nat) (l : List Int) (rc : Array Value) (cv : Int) (i : Nat) (v : Value) (w : World) : Prop :=
  match i with
  | 0 => v = .int .i64 0
  | 1 => v = .bool true
  | 2 => v = .bool true
  | 3 => v = .pointer (some ⟨p, 0, none⟩)
  | 4 => ∃ A0 c0 A2 c2 A3 c3 A4 c4, v = .agg (cH 2147483648 rZ fN 0 0 (sL (.slice A0 n c0) (.slice A2 0 c2) (.slice A3 0 c3) false 0 0 18446744073709551615 false false 0 (.slice A4 0 c4))).toArray ∧ w.ownsRow base 5 1 (.slice A0 n c0) n (l.map (Value.int .u8)) ∧ w.ownsRow base 5 1 (.slice A2 0 c2) 0 [] ∧ w.ownsRow base 5 1 (.slice A3 0 c3) 0 [] ∧ EO base w (.slice A4 0 c4) []
  | 5 => ∃ A0 c0 A2 c2 A3 c3 A4 c4, v = .agg (cH 2147483648 rZ fN 0 0 (rL (.slice A0 n c0) nl 0 (.slice A2 0 c2) false (.slice A3 0 c3) 0 18446744073709551615 false false 0 (.slice A4 0 c4))).toArray ∧ w.ownsRow base 5 1 (.slice A0 n c0) n (l.map (Value.int .u8)) ∧ w.ownsRow base 5 1 (.slice A2 0 c2) 0 [] ∧ w.ownsRow base 5 1 (.slice A3 0 c3) 0 [] ∧ EO base w (.slice A4 0 c4) []
  | 6 => v = .agg rc
  | 7 => v = .bool true
  | 8 => v = .bool true
  | 9 => v = .bool true
  | 10 => v = .agg #[.int .u64 0, .int .u64 0, .int .u64 (tnow 0 0), .int .u32 cv]
  | 11 => v = .agg rc
  | 12 => v = .agg #[.int .u64 0, .int .u64 0, .int .u64 (tnow 0 0), .int .u32 cv]
  | 13 => v = .bool true
  | 14 => v = .bool true
  | 15 => v = .bool true
  | 16 => v = .bool true
  | 17 => v = .bool true
  | _ => True
theorem postNe_rg {p n base : Nat} {l : List Int} {rc : Array Value} {cv : Int} (j : Nat) (v : Value) (w w' : World) (h : postNe p n base l rc cv j v w) (k : Below w.heap.size w w') : postNe p n base l rc cv j v w' := by
  unfold postNe at h ⊢
  split at h
  all_goals first
    | exact h
    | (obtain ⟨A0, c0, A2, c2, A3, c3, A4, c4, h1, h2, h3, h4, h5⟩ := h; exact ⟨A0, c0, A2, c2, A3, c3, A4, c4, h1, owns_below h2 k, owns_below h3 k, owns_below h4 k, h5.below k⟩)
section
variable (n : Int) (A : Option Addr) (len cap : Nat) (f : Nat → Nat → Int) (p : Nat → Option Addr) (nn c : Nat → Nat) (bb : Nat → List Int) (Ai : Option Addr) (leni capi : Nat) (fi : Nat → Nat → Int) (W : World)
set_option maxRecDepth 100000 in
set_option maxHeartbeats 2000000 in
theorem news_early (h : (decide (30 < len) || decide (400 < leni) || (decide (4096 < n) && decide (n ≤ 65536))) = true) : Calls Try.prog 4 #[.int .i64 n, .slice A len cap, .slice Ai leni capi] W fun e w' => e = .returned (.bool true) ∧ Below W.heap.size W w' := by
  go_enter Try.func4, Try.ntmps4
  rcases h1 : decide ((len : Int) > 30) with _ | _
  · rcases h2 : decide ((leni : Int) > 400) with _ | _
    · have g1 : decide (30 < len) = false := by simp at h1 ⊢; omega
      have g2 : decide (400 < leni) = false := by simp at h2 ⊢; omega
      rw [g1, g2] at h
      simp only [Bool.false_or, Bool.and_eq_true, decide_eq_true_eq] at h
      have h3 : decide (n > 4096) = true := by simp; omega
      have h4 : decide (n ≤ 65536) = true := by simp; omega
      go_wp2_with fail
      refine (cpu_awake_calls _).mono ?_
      rintro e w1 ⟨rfl, d1⟩
      go_wp2_with fail
      go_ret
      exact ⟨rfl, d1⟩
    · go_wp2_with fail
      refine (cpu_awake_calls _).mono ?_
      rintro e w1 ⟨rfl, d1⟩
      go_wp2_with fail
      go_ret
      exact ⟨rfl, d1⟩
  · go_wp2_with fail
    refine (cpu_awake_calls _).mono ?_
    rintro e w1 ⟨rfl, d1⟩
    go_wp2_with fail
    go_ret
    exact ⟨rfl, d1⟩
set_option maxRecDepth 100000 in
set_option maxHeartbeats 8000000 in
theorem news_late (hl : len ≤ 30) (hli : leni ≤ 400) (hn : ¬ (4096 < n ∧ n ≤ 65536)) (hm : IsMix [.u32] W A len cap f p nn c bb) (hi : IsRows [.u64, .u8] W Ai leni capi fi) :
    Calls Try.prog 4 #[.int .i64 n, .slice A len cap, .slice Ai leni capi] W fun e w' => e = .returned (.bool true) ∧ Below W.heap.size W w' := by
  have HM := Aside0.mk hm
  have HI := Aside0.mk hi
  have HN := Aside0.mk hn
  have h1 : decide ((len : Int) > 30) = false := by simp; omega
  have h2 : decide ((leni : Int) > 400) = false := by simp; omega
  have HL := Aside0.mk (And.intro hl hli)
  clear hm hi hn hl hli
  go_enter Try.func4, Try.ntmps4
  rcases h3 : decide (n > 4096) with _ | _
  all_goals (first | (have h4 : decide (n ≤ 65536) = false := (by have := HN.out; simp at h3 ⊢; omega)) | skip)
  all_goals
    go_wp2_with fail
    clear h3 HN
    go_loopg [7] (len + 1) (fun g i wr => ∃ k : Nat, g + k = len + 1 ∧ k ≤ len ∧ i = .int .i64 (k : Int) ∧ Aside0 (W = wr))
    case atStart => exact ⟨0, by omega, by omega, rfl, ⟨rfl⟩⟩
    case round =>
      obtain ⟨k, hgk, hkl, rfl, HWR⟩ := hrel
      obtain ⟨wo, rfl⟩ : ∃ wo : World, wo = wr := ⟨_, rfl⟩
      by_cases hlt : k < len
      · have hlt' : ((k : Int) < (len : Int)) = True := by simp; omega
        obtain ⟨x, hx, _, hcell, hrow⟩ := HM.out.at_ hlt
        rw [HWR.out] at hcell
        simp only [List.length_singleton] at hcell
        rw [show k * (1 + 1) + 1 = k * 2 + 1 from rfl, add_field _ _ 1 (by omega)] at hcell
        subst hx
        by_cases hb : nn k > 1000
        · have hb' : decide ((nn k : Int) > 1000) = true := by simp; omega
          clear hrow
          go_wp2_with fail
          refine (cpu_awake_calls _).mono ?_
          rintro e w1 ⟨rfl, d1⟩
          go_wp2_with fail
          go_ret
          rw [HWR.out]
          exact ⟨rfl, d1⟩
        · have hb' : decide ((nn k : Int) > 1000) = false := by simp; omega
          clear hrow
          go_wp2_with fail
          go_roundg (gk - 1)
          case measure => omega
          case rel => exact ⟨k + 1, by omega, by omega, by have := HL.out.1; congr 1; unfold wrap64; omega, HWR⟩
      · obtain rfl : len = k := by omega
        have hlt' : ((len : Int) < (len : Int)) = False := by simp
        have hWW := HWR.out
        subst hWW
        clear HWR hlt hgk hkl
        obtain ⟨r, h12, hwhy⟩ := why_f n (prts len f nn bb) (by rw [prts_len]; have := HL.out.1; omega) (mix_PW HM.out) leni fi (len + leni + 2) (by rw [prts_len]; omega) (by omega)
        have HWHY : Aside0 (mimesisref18_Why.f (len + leni + 2) n (prts len f nn bb) (sarr leni fi) = some (newAns n (prts len f nn bb) r)) := ⟨hwhy⟩
        have H12 := Aside0.mk h12
        clear hwhy h12
        have HPA := mimesislaw18_Parts.calls (len + 1) (fun _ => True) A cap (prts len f nn bb) ((prts len f nn bb).map pt) W (mix_V HM.out _) (parts_f _ (by rw [prts_len]; have := HL.out.1; omega) _ (by rw [prts_len]; omega))
        rw [prts_len] at HPA
        have HPA := Aside0.mk HPA
        go_wp2_with fail
        refine HPA.out.mono ?_
        rintro e w1 ⟨v1, rfl, hN, d1⟩
        obtain ⟨A1, c1, rfl, hc1, hC1⟩ := Kd.N_reads hN
        rw [List.length_map, prts_len] at hc1
        have HC1 := Aside0.mk (And.intro hC1 hc1)
        have B1 := Aside0.mk d1
        have HI1 := Aside0.mk (HI.out.below (by decide) d1)
        have HLM : Aside0 (((prts len f nn bb).map pt).length = len) := ⟨by rw [List.length_map, prts_len]⟩
        rw [HLM.out]
        clear hN hc1 hC1 d1 HPA
        have HWC : Aside0 (∀ w', Below W.heap.size W w' → Calls Try.prog 15 #[.int .i64 n, .slice A len cap, .slice Ai leni capi] w' fun e w'' => e = .returned (.int .i64 (newAns n (prts len f nn bb) r)) ∧ Below w'.heap.size w' w'') := ⟨fun w' hb => by
          have hsl : (sarr leni fi).length = leni := by simp [sarr]
          have := mimesisref18_Why.calls (len + leni + 2) n A cap (prts len f nn bb) Ai capi (sarr leni fi) _ w' (Kd.C_below (mix_C HM.out) hb) (by rw [prts_len]; exact HM.out.le.1) (Kd.C_below (rows_C HI.out) hb) (by rw [hsl]; exact HI.out.le.1) HWHY.out
          rw [prts_len, hsl] at this
          exact this⟩
        by_cases hx : newAns n (prts len f nn bb) r = 0
        · rw [hx] at HWC
          have hs : sizeOk n = true := by
            cases hs : sizeOk n with
            | true => rfl
            | false => rw [newAns, hs, if_neg (by decide)] at hx; cases hx
          unfold sizeOk at hs
          simp only [Bool.and_eq_true, decide_eq_true_eq, beq_iff_eq] at hs
          obtain ⟨m, rfl⟩ : ∃ m : Nat, n = m := ⟨n.toNat, by omega⟩
          have HMN : Aside0 (64 ≤ m ∧ m ≤ 65536) := ⟨by omega⟩
          have HWL : Aside0 (whyL m (prts len f nn bb) = 0) := ⟨by
            unfold newAns sizeOk at hx
            rw [if_pos (by simp; omega)] at hx
            simp only [Int.toNat_natCast] at hx
            by_cases hy : whyL m (prts len f nn bb) = 0
            · exact hy
            · rw [if_neg hy] at hx; exact absurd hx hy⟩
          have HYE := cpunew_yes W w1 B1.out m (prts len f nn bb) A1 c1 HC1.out.1 (by rw [prts_len]; exact HC1.out.2) (mix_PW HM.out) HI1.out H12.out hx
          rw [prts_len] at HYE
          have HYE := Aside0.mk HYE
          have HLF := Aside0.mk (rlay_f (prts len f nn bb) m HMN.out.2 (mix_PW HM.out) HWL.out (len + 1) (by rw [prts_len]; omega) (List.replicate m 0) (by simp))
          have HRN := Aside0.mk (fun w' (hb : Below W.heap.size W w') => (by
            have := rnew_calls w' m HMN.out.2 A cap (prts len f nn bb) Ai leni capi (len + 1) _ (Kd.C_below (mix_C HM.out) hb) (by rw [prts_len]; exact HM.out.le.1) HLF.out.1
            rw [prts_len] at this
            exact this))
          have HLL := Aside0.mk HLF.out.2
          generalize layL (List.replicate m 0) (prts len f nn bb) = l at HYE HRN HLL
          clear hs hx HC1 HI1 HWL HLF H12 HWHY HLM
          go_wp2_with fail
          refine HYE.out.mono ?_
          rintro e w2 ⟨p, B, R, C, T, BB, BW, BG, X, ws, gs, rfl, mc, d2⟩
          have HMC := Aside0.mk mc
          have B2 := Aside0.mk (below_on B1.out d2)
          clear mc d2 B1 HYE
          go_wp2_with fail
          refine (HWC.out w2 B2.out).mono ?_
          rintro e w3 ⟨rfl, d3⟩
          have HMC3 := Aside0.mk (HMC.out.below d3)
          have B3 := Aside0.mk (below_on B2.out d3)
          clear d3 B2 HMC HWC
          go_wp2_with fail
          refine (HRN.out w3 B3.out).mono ?_
          rintro e w4 ⟨AR, cR, rfl, hcR, hCR, d4⟩
          have HMC4 := Aside0.mk (HMC3.out.below d4)
          have B4 := Aside0.mk (below_on B3.out d4)
          have HRR4 : Aside0 (l.length = m ∧ m ≤ 65536 ∧ l.length ≤ cR ∧ (Kd.int .u8).C w4 AR l.length l) := ⟨HLL.out, HMN.out.2, hcR, hCR⟩
          have HS4 : Aside0 (W.heap.size ≤ w4.heap.size) := ⟨B4.out.size⟩
          clear d4 B3 HMC3 HRN hcR hCR
          obtain ⟨rc, hrc⟩ : ∃ rc, (cH 2147483648 rZ fN 0 0 (rL (.slice AR l.length cR) (.slice Ai leni capi) 0 nl false nl 0 18446744073709551615 false false 0 nl)).toArray = rc := ⟨_, rfl⟩
          have HRC : Aside0 ((cH 2147483648 rZ fN 0 0 (rL (.slice AR m cR) (.slice Ai leni capi) 0 nl false nl 0 18446744073709551615 false false 0 nl)).toArray = rc ∧ (Try.prog.info? 64).map (·.size) = some rc.size ∧ rc.all (·.oneCell') = true) := ⟨by rw [← HLL.out]; exact hrc, by rw [← hrc, cH_size rZ_len (by rfl)]; exact rc_size, by rw [← hrc]; exact cH_one rZ_one fN_one (rL_one rfl rfl rfl rfl rfl)⟩
          rw [hrc]
          clear hrc
          go_upto_region 13 with (first
            | (refine wpList_alloc_z rfl 64 rfl zR zR_zero ?_; intro w5 hb3 hB3; have HB5 := Aside0.mk hb3; have BB5 := Aside0.mk hB3; clear hb3 hB3)
            | ((with_reducible refine gate_store (t := 64) (p := 11) (v := .tmp 71) rfl ?_); refine wpList_store_arr rfl 64 (.tmp 11) (.tmp 71) rfl w4.heap.size rfl rc rfl zR 64 HB5.out (by rw [zR_size, ← HRC.out.1, cH_size rZ_len (by rfl)]; rfl) HRC.out.2.1 HRC.out.2.2 ?_; intro w6 hf ho; have HG6 := Aside0.mk hf; have HO6 := Aside0.mk ho; clear hf ho))
          have d6 := Aside0.mk (HO6.out.below (Nat.le_refl _) BB5.out)
          have HMC6 := Aside0.mk (HMC4.out.below d6.out)
          have B6 := Aside0.mk (below_on B4.out d6.out)
          have HRR6 : Aside0 (l.length = m ∧ m ≤ 65536 ∧ l.length ≤ cR ∧ (Kd.int .u8).C w6 AR l.length l) := ⟨HRR4.out.1, HRR4.out.2.1, HRR4.out.2.2.1, Kd.C_below HRR4.out.2.2.2 d6.out⟩
          clear d6 HO6 BB5 HB5 HMC4 B4 HRR4 HS4
          generalize w4.heap.size = G at HG6 ⊢
          go_simp
          go_wp2_with fail
          refine (cenv_ok HMC6.out).mono ?_
          rintro e w7 ⟨rfl, d7⟩
          have HMC7 := Aside0.mk (HMC6.out.below d7)
          have B7 := Aside0.mk (below_on B6.out d7)
          have HG7 := Aside0.mk (blk_below HG6.out d7)
          have HRR7 : Aside0 (l.length = m ∧ m ≤ 65536 ∧ l.length ≤ cR ∧ (Kd.int .u8).C w7 AR l.length l) := ⟨HRR6.out.1, HRR6.out.2.1, HRR6.out.2.2.1, Kd.C_below HRR6.out.2.2.2 d7⟩
          clear d7 HMC6 B6 HG6 HRR6
          obtain ⟨cv, hcv⟩ : ∃ cv, bcallsv false (tup 0 0 18446744073709551615) (decide (0 < ([] : List Int).length)) = cv := ⟨_, rfl⟩
          have HCV := Aside0.mk hcv
          rw [hcv]
          clear hcv
          go_upto_region 14 with (first
            | (refine wpList_alloc_z rfl 67 rfl zEnv zEnv_zero ?_; intro w8 hb3 hB3; have HB8 := Aside0.mk hb3; have BB8 := Aside0.mk hB3; clear hb3 hB3)
            | ((with_reducible refine gate_store (t := 67) (p := 12) (v := .tmp 73) rfl ?_); refine wpList_store_arr rfl 67 (.tmp 12) (.tmp 73) rfl w7.heap.size rfl #[.int .u64 0, .int .u64 0, .int .u64 (tnow 0 0), .int .u32 cv] rfl zEnv 67 HB8.out rfl env_size (by simp [Value.oneCell']) ?_; intro w9 hf ho; have HV9 := Aside0.mk hf; have HO9 := Aside0.mk ho; clear hf ho))
          have d9 := Aside0.mk (HO9.out.below (Nat.le_refl _) BB8.out)
          have HM9 := Aside0.mk (HMC7.out.below d9.out)
          have B9 := Aside0.mk (below_on B7.out d9.out)
          have HG := Aside0.mk (blk_below HG7.out d9.out)
          have HRR9 : Aside0 (l.length = m ∧ m ≤ 65536 ∧ l.length ≤ cR ∧ (Kd.int .u8).C w9 AR l.length l) := ⟨HRR7.out.1, HRR7.out.2.1, HRR7.out.2.2.1, Kd.C_below HRR7.out.2.2.2 d9.out⟩
          clear d9 HO9 BB8 HB8 HMC7 B7 HG7 HRR7
          generalize w7.heap.size = V at HV9 ⊢
          go_simp
          have HI0 : Aside0 (Below w9.heap.size w9 w9.drew) := ⟨⟨rfl, rfl, rfl, Nat.le_refl _, fun _ _ => rfl⟩⟩
          have HRCV : Aside0 (∀ w', Below w9.heap.size w9 w' → Calls Try.prog 61 #[.agg (rB (.slice AR m cR) (.slice Ai leni capi) 0 (.slice none 0 0) false (.slice none 0 0) 0 18446744073709551615 false false 0).toArray, .int .u64 0] w' fun e w'' => e = .returned (.int .u32 cv) ∧ Below w'.heap.size w' w'') := ⟨fun w' hb => by
            have hsl : (sarr leni fi).length = leni := by simp [sarr]
            have := mimesisref14_Calls.calls 1 AR cR l Ai capi (sarr leni fi) 0 none 0 [] false none 0 [] 0 18446744073709551615 false false 0 0 cv w' (Kd.C_below HRR9.out.2.2.2 hb) HRR9.out.2.2.1 (Kd.C_below (rows_C HI.out) (B9.out.trans (hb.mono B9.out.size))) (by rw [hsl]; exact HI.out.le.1) (Kd.C_nil _ _) (Nat.le_refl _) (Kd.C_nil _ _) (Nat.le_refl _) (by rw [rcalls_f, HCV.out])
            rw [hsl, HLL.out] at this
            exact this⟩
          refine wp_region_rj (by kernel_rfl) 18 (fun W' => Below w9.heap.size w9 W') (fun x y => Below x.heap.size x y) (postNe p m w9.heap.size l rc cv) (by kernel_rfl) postNe_rg HI0.out ?step ?fin
          case step =>
            intro i o hi him b W' hinv hkeep hdef hpre K hK
            have HI := Aside0.mk hinv
            have HPRE := Aside0.mk hpre
            have HKEEP := Aside0.mk hkeep
            have HKK := Aside0.mk hK
            clear hinv hpre hkeep hK hdef
            obtain rfl | rfl | rfl | rfl | rfl | rfl | rfl | rfl | rfl | rfl | rfl | rfl | rfl | rfl | rfl | rfl | rfl | rfl : i = 0 ∨ i = 1 ∨ i = 2 ∨ i = 3 ∨ i = 4 ∨ i = 5 ∨ i = 6 ∨ i = 7 ∨ i = 8 ∨ i = 9 ∨ i = 10 ∨ i = 11 ∨ i = 12 ∨ i = 13 ∨ i = 14 ∨ i = 15 ∨ i = 16 ∨ i = 17 := by omega
            · cases hi
              have e9 : b.tmps.getD 9 undef = .int .i64 0 := HKEEP.out 9 (by kernel_rfl)
              rw [if_pos (by rfl)]
              go_simp
              exact HKK.out _ _ HI.out (Below.refl _ _) (by first | rfl | (simp; done))
            · cases hi
              have e74 : b.tmps.getD 74 undef = .int .i64 0 := HPRE.out 0 (by kernel_rfl) (by omega)
              rw [if_pos (by rfl)]
              go_simp
              exact HKK.out _ _ HI.out (Below.refl _ _) (by first | rfl | (simp; done))
            · cases hi
              have e75 : b.tmps.getD 75 undef = .bool true := HPRE.out 1 (by kernel_rfl) (by omega)
              rw [if_pos (by rfl)]
              go_simp
              exact HKK.out _ _ HI.out (Below.refl _ _) (by first | rfl | (simp; done))
            · cases hi
              have e76 : b.tmps.getD 76 undef = .bool true := HPRE.out 2 (by kernel_rfl) (by omega)
              have e8 : b.tmps.getD 8 undef = .pointer (some ⟨p, 0, none⟩) := HKEEP.out 8 (by kernel_rfl)
              rw [if_pos (wanted_yes rfl rfl rfl e76)]
              go_simp
              exact HKK.out _ _ HI.out (Below.refl _ _) (by first | rfl | (simp; done))
            · cases hi
              have e76 : b.tmps.getD 76 undef = .bool true := HPRE.out 2 (by kernel_rfl) (by omega)
              have e77 : b.tmps.getD 77 undef = .pointer (some ⟨p, 0, none⟩) := HPRE.out 3 (by kernel_rfl) (by omega)
              rw [if_pos (wanted_yes rfl rfl rfl e76)]
              go_simp
              refine (cstate_ev (HM9.out.below HI.out) (EO.nil w9.heap.size _) (by decide) (by have := HMN.out; omega) (by decide)).mono ?_
              rintro e W2 ⟨vr, vx, vo, ve, rfl, o1, o2, o3, eo, d⟩
              obtain ⟨A0, c0, rfl⟩ := owns_form o1
              obtain ⟨A2, c2, rfl⟩ := owns_form o2
              obtain ⟨A3, c3, rfl⟩ := owns_form o3
              obtain ⟨A4, c4, rfl, _⟩ := eo.es
              exact HKK.out _ _ (below_on HI.out d) d ⟨A0, c0, A2, c2, A3, c3, A4, c4, rfl, con_zero_base o1 HI.out.size, con_zero_base o2 HI.out.size, con_zero_base o3 HI.out.size, eo.wide HI.out.size⟩
            · cases hi
              have e76 : b.tmps.getD 76 undef = .bool true := HPRE.out 2 (by kernel_rfl) (by omega)
              rw [if_pos (wanted_yes rfl rfl rfl e76)]
              obtain ⟨A0, c0, A2, c2, A3, c3, A4, c4, e78, o1, o2, o3, eo⟩ := HPRE.out 4 (by kernel_rfl) (by omega)
              replace e78 : b.tmps.getD 78 undef = _ := e78
              go_simp
              refine (of_calls W' rZ_len rZ_one 6144 0 0 0 0 0 0 0 0 A0 A2 A3 A4 m c0 0 c2 0 c3 0 c4 false false 0 0 18446744073709551615 false 0).mono ?_
              rintro e W2 ⟨rfl, d⟩
              exact HKK.out _ _ (below_on HI.out d) d ⟨A0, c0, A2, c2, A3, c3, A4, c4, rfl, owns_below o1 d, owns_below o2 d, owns_below o3 d, eo.below d⟩
            · cases hi
              have e76 : b.tmps.getD 76 undef = .bool true := HPRE.out 2 (by kernel_rfl) (by omega)
              have e11 : b.tmps.getD 11 undef = .pointer (some ⟨G, 0, none⟩) := HKEEP.out 11 (by kernel_rfl)
              rw [if_pos (wanted_yes rfl rfl rfl e76)]
              refine wp_load_arr 64 (.tmp 11) rfl G e11 rc (blk_below HG.out HI.out) _ Try.underlying64 rfl HRC.out.2.1 ?_
              exact HKK.out _ _ HI.out (Below.refl _ _) rfl
            · cases hi
              have e76 : b.tmps.getD 76 undef = .bool true := HPRE.out 2 (by kernel_rfl) (by omega)
              have e80 : b.tmps.getD 80 undef = .agg rc := HPRE.out 6 (by kernel_rfl) (by omega)
              rw [if_pos (wanted_yes rfl rfl rfl e76)]
              obtain ⟨A0, c0, A2, c2, A3, c3, A4, c4, e79, o1, o2, o3, eo⟩ := HPRE.out 5 (by kernel_rfl) (by omega)
              replace e79 : b.tmps.getD 79 undef = _ := e79
              rw [← HRC.out.1] at e80
              go_simp
              refine (rsame_calls W' A0 none A2 A3 A4 AR Ai none none none m c0 0 0 0 c2 0 c3 0 c4 m cR leni capi 0 0 0 0 0 0 false false 0 0 18446744073709551615 false 0 rZ_len rfl rZ_fits fN_fits (rsin_of HRR9.out HI.out o1 o2 o3 eo)).mono ?_
              rintro e W2 ⟨rfl, d⟩
              exact HKK.out _ _ (below_on HI.out d) d rfl
            · cases hi
              have e76 : b.tmps.getD 76 undef = .bool true := HPRE.out 2 (by kernel_rfl) (by omega)
              have e81 : b.tmps.getD 81 undef = .bool true := HPRE.out 7 (by kernel_rfl) (by omega)
              rw [if_pos (by rfl)]
              go_simp
              exact HKK.out _ _ HI.out (Below.refl _ _) (by first | rfl | (simp; done))
            · cases hi
              have e82 : b.tmps.getD 82 undef = .bool true := HPRE.out 8 (by kernel_rfl) (by omega)
              rw [if_pos (by rfl)]
              go_simp
              exact HKK.out _ _ HI.out (Below.refl _ _) (by first | rfl | (simp; done))
            · cases hi
              have e83 : b.tmps.getD 83 undef = .bool true := HPRE.out 9 (by kernel_rfl) (by omega)
              have e12 : b.tmps.getD 12 undef = .pointer (some ⟨V, 0, none⟩) := HKEEP.out 12 (by kernel_rfl)
              rw [if_pos (wanted_yes rfl rfl rfl e83)]
              refine wp_load_arr 67 (.tmp 12) rfl V e12 _ (blk_below HV9.out HI.out) _ Try.underlying67 rfl env_size ?_
              exact HKK.out _ _ HI.out (Below.refl _ _) rfl
            · cases hi
              have e83 : b.tmps.getD 83 undef = .bool true := HPRE.out 9 (by kernel_rfl) (by omega)
              have e11 : b.tmps.getD 11 undef = .pointer (some ⟨G, 0, none⟩) := HKEEP.out 11 (by kernel_rfl)
              rw [if_pos (wanted_yes rfl rfl rfl e83)]
              refine wp_load_arr 64 (.tmp 11) rfl G e11 rc (blk_below HG.out HI.out) _ Try.underlying64 rfl HRC.out.2.1 ?_
              exact HKK.out _ _ HI.out (Below.refl _ _) rfl
            · cases hi
              have e83 : b.tmps.getD 83 undef = .bool true := HPRE.out 9 (by kernel_rfl) (by omega)
              have e85 : b.tmps.getD 85 undef = .agg rc := HPRE.out 11 (by kernel_rfl) (by omega)
              rw [if_pos (wanted_yes rfl rfl rfl e83)]
              rw [← HRC.out.1] at e85
              go_simp
              refine (renv_calls W' AR Ai none none none m cR leni capi 0 0 0 0 0 0 false false 0 0 18446744073709551615 false 0 cv rZ_len rfl (fun w' hb => HRCV.out w' (HI.out.trans (hb.mono HI.out.size)))).mono ?_
              rintro e W2 ⟨rfl, d⟩
              exact HKK.out _ _ (below_on HI.out d) d rfl
            · cases hi
              have e83 : b.tmps.getD 83 undef = .bool true := HPRE.out 9 (by kernel_rfl) (by omega)
              have e84 : b.tmps.getD 84 undef = .agg #[.int .u64 0, .int .u64 0, .int .u64 (tnow 0 0), .int .u32 cv] := HPRE.out 10 (by kernel_rfl) (by omega)
              have e86 : b.tmps.getD 86 undef = .agg #[.int .u64 0, .int .u64 0, .int .u64 (tnow 0 0), .int .u32 cv] := HPRE.out 12 (by kernel_rfl) (by omega)
              rw [if_pos (wanted_yes rfl rfl rfl e83)]
              refine wp_eql_flat 67 67 (.tmp 84) (.tmp 86) rfl kW kW_of (by kernel_rfl) (by kernel_rfl) [.int .u64 0, .int .u64 0, .int .u64 (tnow 0 0), .int .u32 cv] _ e84 e86 (kW_fit _ _ _ _) (kW_fit _ _ _ _) ?_
              intro c hc
              obtain rfl : c = true := hc.2 rfl
              exact HKK.out _ _ HI.out (Below.refl _ _) rfl
            · cases hi
              have e83 : b.tmps.getD 83 undef = .bool true := HPRE.out 9 (by kernel_rfl) (by omega)
              have e87 : b.tmps.getD 87 undef = .bool true := HPRE.out 13 (by kernel_rfl) (by omega)
              rw [if_pos (by rfl)]
              go_simp
              exact HKK.out _ _ HI.out (Below.refl _ _) (by first | rfl | (simp; done))
            · cases hi
              have e88 : b.tmps.getD 88 undef = .bool true := HPRE.out 14 (by kernel_rfl) (by omega)
              rw [if_pos (by rfl)]
              go_simp
              exact HKK.out _ _ HI.out (Below.refl _ _) (by first | rfl | (simp; done))
            · cases hi
              have e89 : b.tmps.getD 89 undef = .bool true := HPRE.out 15 (by kernel_rfl) (by omega)
              rw [if_pos (wanted_yes rfl rfl rfl e89)]
              go_simp
              refine (cpu_awake_calls _).mono ?_
              rintro e W2 ⟨rfl, d⟩
              exact HKK.out _ _ (below_on HI.out d) d rfl
            · cases hi
              have e89 : b.tmps.getD 89 undef = .bool true := HPRE.out 15 (by kernel_rfl) (by omega)
              have e90 : b.tmps.getD 90 undef = .bool true := HPRE.out 16 (by kernel_rfl) (by omega)
              rw [if_pos (by rfl)]
              go_simp
              exact HKK.out _ _ HI.out (Below.refl _ _) (by first | rfl | (simp; done))
          case fin =>
            intro b W' hinv hsz hdef hkeep hpost
            have e91 : b.tmps.getD 91 undef = .bool true := hpost 17 (by omega)
            refine rj_lastv (by kernel_rfl) rfl (by kernel_rfl) rfl (by kernel_rfl) ?_
            obtain ⟨sl, hlit, hsl⟩ := act_let b 92 hsz
            rw [hdef] at hlit
            rw [← hsl] at e91
            simp only [show List.range 92 = [0, 1, 2, 3, 4, 5, 6, 7, 8, 9, 10, 11, 12, 13, 14, 15, 16, 17, 18, 19, 20, 21, 22, 23, 24, 25, 26, 27, 28, 29, 30, 31, 32, 33, 34, 35, 36, 37, 38, 39, 40, 41, 42, 43, 44, 45, 46, 47, 48, 49, 50, 51, 52, 53, 54, 55, 56, 57, 58, 59, 60, 61, 62, 63, 64, 65, 66, 67, 68, 69, 70, 71, 72, 73, 74, 75, 76, 77, 78, 79, 80, 81, 82, 83, 84, 85, 86, 87, 88, 89, 90, 91] from rfl, List.map_cons, List.map_nil, e91] at hlit
            rw [hlit]
            have BF := Aside0.mk (B9.out.trans (hinv.mono B9.out.size))
            clear hkeep hsz hdef hpost hsl hlit e91 hinv
            go_simp
            go_wp2
            go_ret
            exact ⟨rfl, BF.out⟩
        · obtain ⟨x, hxe⟩ : ∃ x, newAns n (prts len f nn bb) r = x := ⟨_, rfl⟩
          have HNO := cpunew_no w1 n (prts len f nn bb) A1 c1 HC1.out.1 (by rw [prts_len]; exact HC1.out.2) (mix_PW HM.out) HI1.out H12.out x hxe (by rw [← hxe]; exact hx)
          rw [prts_len] at HNO
          have HNO := Aside0.mk HNO
          rw [hxe] at HWC hx
          have hx1 : (x != 0) = true := by simpa using hx
          clear hxe hx
          go_wp2_with fail
          refine HNO.out.mono ?_
          rintro e w2 ⟨rfl, d2⟩
          have B2 := Aside0.mk (below_on B1.out d2)
          clear d2 B1 HNO
          go_wp2_with fail
          refine (HWC.out w2 B2.out).mono ?_
          rintro e w3 ⟨rfl, d3⟩
          have B3 := Aside0.mk (below_on B2.out d3)
          clear d3 B2
          go_wp2_with fail
          refine (cpu_awake_calls _).mono ?_
          rintro e w4 ⟨rfl, d4⟩
          have B4 := Aside0.mk (below_on B3.out d4)
          clear d4 B3
          go_wp2_with fail
          go_ret
          exact ⟨rfl, B4.out⟩
end
/-- The law: the machine of any size, image and arrivals. -/
theorem cpu_news (n : Int) (A : Option Addr) (len cap : Nat) (f : Nat → Nat → Int) (p : Nat → Option Addr) (nn c : Nat → Nat) (bb : Nat → List Int) (Ai : Option Addr) (leni capi : Nat) (fi : Nat → Nat → Int) (W : World) (_hn : (Lit.int .i64 n).wf = true) (hm : IsMix [.u32] W A len cap f p nn c bb) (hi : IsRows [.u64, .u8] W Ai leni capi fi) :
    Calls Try.prog 4 #[.int .i64 n, .slice A len cap, .slice Ai leni capi] W fun e w' => e = .returned (.bool true) ∧ Below W.heap.size W w' := by
  cases h : (decide (30 < len) || decide (400 < leni) || (decide (4096 < n) && decide (n ≤ 65536))) with
  | true => exact news_early n A len cap Ai leni capi W h
  | false =>
    simp only [Bool.or_eq_false_iff, decide_eq_false_iff_not] at h
    obtain ⟨⟨h1, h2⟩, h3⟩ := h
    exact news_late n A len cap f p nn c bb Ai leni capi fi W (by omega) (by omega) (fun hh => by
      rw [decide_eq_true hh.1, decide_eq_true hh.2] at h3; cases h3) hm hi
end Go.Proofs.Ytfnbpmkbjbibkaa
