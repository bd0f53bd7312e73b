/- Are two lists of events the same? (PK=PCpuNils) -/
import Derived.Test.YtfnbpmkbjbibkaaCpuSm
import Derived.Deep.LoopGhost
namespace Go.Proofs.Ytfnbpmkbjbibkaa
open Go Go.RowKit Go.Deep Go.Great Go.Proofs.YtfnbpmkbjbibkaaW.PrintWords Go.Proofs.Ytfnbpmkbjbibkaa.PCpuNils
set_option linter.unusedVariables false
set_option linter.unusedSimpArgs false

def kE : List (Option IntKind) := some .i64 :: some .u64 :: List.replicate 43 (some .u32)
theorem kE_of : kindsOf Try.prog 20 46 = some kE := by kernel_rfl
theorem ev_size : (Try.prog.info? 46).map (·.size) = some 45 := by kernel_rfl
theorem Fits.len45 {e : List Value} (h : Fits kE e) : e.length = 45 := h.len
/-- The slice at A reads as the events evs. -/
def ES (w : World) (A : Option Addr) (evs : List (List Value)) : Prop := ∀ (i : Nat) e, evs[i]? = some e → Fits kE e ∧ ∃ ad, A = some ad ∧ ∀ j v, e[j]? = some v → w.cell? (ad.add (i * 45 + j)) = some v
theorem ES.below {w w' : World} {A : Option Addr} {evs : List (List Value)} (h : ES w A evs) (k : Below w.heap.size w w') : ES w' A evs := fun i e hi => by
  obtain ⟨h1, ad, h2, h3⟩ := h i e hi
  exact ⟨h1, ad, h2, fun j v hj => pw_cell_below k (h3 j v hj)⟩
theorem ES.drawn {w w' : World} {A : Option Addr} {evs : List (List Value)} (h : ES w A evs) (k : Drawn0 w w') : ES w' A evs := h.below k.below
theorem ES.nil (w : World) (A : Option Addr) : ES w A [] := fun i e h => by cases h
theorem row_agg (t : TypeId) (h : (match Try.prog.underlying t with | some (.struct _) | some (.array _ _) => true | _ => false) = true) : (match Try.prog.underlying t with | some (.struct _) | some (.array _ _) => true | _ => false) = true := h

def postEv (A B : Option Addr) (n cA cB k : Nat) (ad bd : Addr) (e f : List Value) (i : Nat) (v : Value) (w : World) : Prop :=
  match i with
  | 0 => v = .slice A n cA
  | 1 => v = .int .i64 (k : Int)
  | 2 => v = .pointer (some (ad.add (k * 45)))
  | 3 => v = .agg e.toArray
  | 4 => v = .slice B n cB
  | 5 => v = .int .i64 (k : Int)
  | 6 => v = .pointer (some (bd.add (k * 45)))
  | 7 => v = .agg f.toArray
  | 8 => ∃ b, v = .bool (!b) ∧ (b = true ↔ e = f)
  | _ => True

set_option maxRecDepth 100000 in
set_option maxHeartbeats 4000000 in
theorem eqe_calls (w : World) (A B : Option Addr) (cA cB : Nat) (a b : List (List Value)) (hA : ES w A a) (hB : ES w B b) (ha : a.length ≤ 1000000) (hb : b.length ≤ 1000000) :
    Calls Try.prog 43 #[.slice A a.length cA, .slice B b.length cB] w fun e w' => ∃ x, e = .returned (.bool x) ∧ (x = true ↔ a = b) ∧ Drawn0 w w' := by
  have HA := Aside0.mk hA
  have HB := Aside0.mk hB
  have HLA := Aside0.mk ha
  have HLB := Aside0.mk hb
  clear hA hB ha hb
  go_enter Try.func43, Try.ntmps43
  by_cases hl : a.length = b.length
  · have hl' : ((a.length : Int) != (b.length : Int)) = false := by simp [hl]
    go_wp2_with fail
    have D0 : Aside0 (Drawn0 w w) := ⟨Drawn0.refl _⟩
    obtain ⟨n, hn⟩ : ∃ n, b.length = n := ⟨_, rfl⟩
    have HN : Aside0 (a.length = n ∧ b.length = n) := ⟨⟨hl.trans hn, hn⟩⟩
    rw [hn] at hl' ⊢
    simp only [show a.length = n from hl.trans hn] at hl' ⊢
    clear hl hn hl'
    go_loopg [13] (n + 1) (fun g i wr => ∃ k : Nat, g + k = n + 1 ∧ k ≤ n ∧ i = .int .i64 (k : Int) ∧ Aside0 (Drawn0 w wr) ∧ Aside0 (a.take k = b.take k))
    case atStart => exact ⟨0, by omega, by omega, rfl, D0, ⟨rfl⟩⟩
    case round =>
      obtain ⟨k, hgk, hkn, rfl, DR, HT⟩ := hrel
      clear D0
      by_cases hlt : k < n
      · have hlt' : ((k : Int) < (n : Int)) = True := by simp; omega
        obtain ⟨e, he⟩ : ∃ e, a[k]? = some e := ⟨_, List.getElem?_eq_getElem (by rw [HN.out.1]; exact hlt)⟩
        obtain ⟨f, hf⟩ : ∃ e, b[k]? = some e := ⟨_, List.getElem?_eq_getElem (by rw [HN.out.2]; exact hlt)⟩
        obtain ⟨fe, ad, rfl, he'⟩ := HA.out k e he
        obtain ⟨ff, bd, rfl, hf'⟩ := HB.out k f hf
        have HE := Aside0.mk (And.intro he (And.intro fe fun j v h => pw_cell_below DR.out.below (he' j v h)))
        have HF := Aside0.mk (And.intro hf (And.intro ff fun j v h => pw_cell_below DR.out.below (hf' j v h)))
        clear he hf fe ff he' hf'
        go_upto_region 6 with fail
        refine wp_region_rj (by kernel_rfl) 9 (fun W' => Drawn0 wr W') (fun x y => True) (postEv (some ad) (some bd) n cA cB k ad bd e f) (by kernel_rfl) (fun _ _ _ _ h _ => h) ((Drawn0.refl wr).step 1) ?step ?fin
        case step =>
          intro i op hi him c W' hinv hkeep hdef hpre K hK
          have HI := Aside0.mk hinv
          have HPRE := Aside0.mk hpre
          have HKEEP := Aside0.mk hkeep
          have HKK := Aside0.mk hK
          clear hinv hpre hkeep hK hdef
          obtain rfl | rfl | rfl | rfl | rfl | rfl | rfl | rfl | rfl : i = 0 ∨ i = 1 ∨ i = 2 ∨ i = 3 ∨ i = 4 ∨ i = 5 ∨ i = 6 ∨ i = 7 ∨ i = 8 := by omega
          · cases hi
            have e0 : c.tmps.getD 0 undef = .slice (some ad) n cA := HKEEP.out 0 (by kernel_rfl)
            rw [if_pos (by rfl)]
            go_simp
            exact HKK.out _ _ HI.out trivial (by first | rfl | (simp; done))
          · cases hi
            have e0 : c.tmps.getD 5 undef = .int .i64 (k : Int) := HKEEP.out 5 (by kernel_rfl)
            rw [if_pos (by rfl)]
            go_simp
            exact HKK.out _ _ HI.out trivial (by first | rfl | (simp; done))
          · cases hi
            have e0 : c.tmps.getD 16 undef = .slice (some ad) n cA := HPRE.out 0 (by kernel_rfl) (by omega)
            have e1 : c.tmps.getD 17 undef = .int .i64 (k : Int) := HPRE.out 1 (by kernel_rfl) (by omega)
            rw [if_pos (by rfl)]
            go_simp
            exact HKK.out _ _ HI.out trivial (by first | rfl | (simp; done))
          · cases hi
            have e0 : c.tmps.getD 18 undef = .pointer (some (ad.add (k * 45))) := HPRE.out 2 (by kernel_rfl) (by omega)
            rw [if_pos (by rfl)]
            refine wp_load_at 46 (.tmp 18) rfl (ad.add (k * 45)) e0 e (fun j v hj => by rw [Go.Deep.add_add]; exact pw_cell_below HI.out.below (HE.out.2.2 j v hj)) (by kernel_rfl) (by rw [HE.out.2.1.len45]; exact ev_size) ?_
            exact HKK.out _ _ HI.out trivial rfl
          · cases hi
            have e0 : c.tmps.getD 1 undef = .slice (some bd) n cB := HKEEP.out 1 (by kernel_rfl)
            rw [if_pos (by rfl)]
            go_simp
            exact HKK.out _ _ HI.out trivial (by first | rfl | (simp; done))
          · cases hi
            have e0 : c.tmps.getD 5 undef = .int .i64 (k : Int) := HKEEP.out 5 (by kernel_rfl)
            rw [if_pos (by rfl)]
            go_simp
            exact HKK.out _ _ HI.out trivial (by first | rfl | (simp; done))
          · cases hi
            have e0 : c.tmps.getD 20 undef = .slice (some bd) n cB := HPRE.out 4 (by kernel_rfl) (by omega)
            have e1 : c.tmps.getD 21 undef = .int .i64 (k : Int) := HPRE.out 5 (by kernel_rfl) (by omega)
            rw [if_pos (by rfl)]
            go_simp
            exact HKK.out _ _ HI.out trivial (by first | rfl | (simp; done))
          · cases hi
            have e0 : c.tmps.getD 22 undef = .pointer (some (bd.add (k * 45))) := HPRE.out 6 (by kernel_rfl) (by omega)
            rw [if_pos (by rfl)]
            refine wp_load_at 46 (.tmp 22) rfl (bd.add (k * 45)) e0 f (fun j v hj => by rw [Go.Deep.add_add]; exact pw_cell_below HI.out.below (HF.out.2.2 j v hj)) (by kernel_rfl) (by rw [HF.out.2.1.len45]; exact ev_size) ?_
            exact HKK.out _ _ HI.out trivial rfl
          · cases hi
            have e0 : c.tmps.getD 19 undef = .agg e.toArray := HPRE.out 3 (by kernel_rfl) (by omega)
            have e1 : c.tmps.getD 23 undef = .agg f.toArray := HPRE.out 7 (by kernel_rfl) (by omega)
            rw [if_pos (by rfl)]
            refine wp_neq_flat 46 46 (.tmp 19) (.tmp 23) rfl kE kE_of (by kernel_rfl) (by kernel_rfl) e f e0 e1 HE.out.2.1 HF.out.2.1 ?_
            intro x hx
            exact HKK.out _ _ HI.out trivial ⟨x, rfl, hx⟩
        case fin =>
          intro c W' hinv hsz hdef hkeep hpost
          obtain ⟨x, hx, hxe⟩ := hpost 8 (by omega)
          have e24 : c.tmps.getD 24 undef = .bool (!x) := hx
          refine rj_all (by kernel_rfl) (by kernel_rfl) ?_
          obtain ⟨sl, hlit, hsl⟩ := act_let c 26 hsz
          rw [hdef] at hlit
          have k0 : sl 0 = .slice (some ad) n cA := (hsl 0).trans (hkeep 0 (by kernel_rfl))
          have k1 : sl 1 = .slice (some bd) n cB := (hsl 1).trans (hkeep 1 (by kernel_rfl))
          have k2 : sl 2 = undef := (hsl 2).trans (hkeep 2 (by kernel_rfl))
          have k3 : sl 3 = undef := (hsl 3).trans (hkeep 3 (by kernel_rfl))
          have k4 : sl 4 = u4 := (hsl 4).trans (hkeep 4 (by kernel_rfl))
          have k5 : sl 5 = .int .i64 (k : Int) := (hsl 5).trans (hkeep 5 (by kernel_rfl))
          have k6 : sl 6 = .slice (some ad) n cA := (hsl 6).trans (hkeep 6 (by kernel_rfl))
          have k7 : sl 7 = .int .i64 (n : Int) := (hsl 7).trans (hkeep 7 (by kernel_rfl))
          have k8 : sl 8 = .slice (some bd) n cB := (hsl 8).trans (hkeep 8 (by kernel_rfl))
          have k9 : sl 9 = .int .i64 (n : Int) := (hsl 9).trans (hkeep 9 (by kernel_rfl))
          have k10 : sl 10 = .bool false := (hsl 10).trans (hkeep 10 (by kernel_rfl))
          have k11 : sl 11 = .slice (some ad) n cA := (hsl 11).trans (hkeep 11 (by kernel_rfl))
          have k12 : sl 12 = .int .i64 (n : Int) := (hsl 12).trans (hkeep 12 (by kernel_rfl))
          have k13 : sl 13 = .int .i64 (k : Int) := (hsl 13).trans (hkeep 13 (by kernel_rfl))
          have k14 : sl 14 = .bool true := (hsl 14).trans (hkeep 14 (by kernel_rfl))
          have k15 : sl 15 = .int .i64 (k : Int) := (hsl 15).trans (hkeep 15 (by kernel_rfl))
          rw [← hsl] at e24
          simp only [show List.range 26 = [0, 1, 2, 3, 4, 5, 6, 7, 8, 9, 10, 11, 12, 13, 14, 15, 16, 17, 18, 19, 20, 21, 22, 23, 24, 25] from rfl, List.map_cons, List.map_nil, e24, k0, k1, k2, k3, k4, k5, k6, k7, k8, k9, k10, k11, k12, k13, k14, k15] at hlit
          rw [hlit]
          have DR2 : Aside0 (Drawn0 w W') := ⟨by obtain ⟨k1, h1⟩ := hinv.out; rw [h1]; exact DR.out.step k1⟩
          clear hkeep hsz hdef hsl hlit hpost hinv e24 hx k0 k1 k2 k3 k4 k5 k6 k7 k8 k9 k10 k11 k12 k13 k14 k15
          cases x with
          | false =>
            have hne : ¬ e = f := fun h => by cases hxe.2 h
            go_wp2_with fail
            go_ret
            refine ⟨false, rfl, ⟨fun h => (by cases h), fun h => absurd ?_ hne⟩, DR2.out⟩
            have h1 := HE.out.1
            rw [h, HF.out.1] at h1
            exact (Option.some.inj h1).symm
          | true =>
            obtain rfl := hxe.1 rfl
            have HT2 : Aside0 (a.take (k + 1) = b.take (k + 1)) := ⟨by
              rw [List.take_add_one, List.take_add_one, HT.out, HE.out.1, HF.out.1]⟩
            clear hxe
            go_wp2_with fail
            go_roundg (gk - 1)
            case measure => omega
            case rel => exact ⟨k + 1, by omega, by omega, by have h1 := HLA.out; have h2 := HN.out.1; congr 1; unfold wrap64; omega, DR2, HT2⟩
      · obtain rfl : k = n := by omega
        have hlt' : ((k : Int) < (k : Int)) = False := by simp
        go_wp2_with fail
        go_ret
        refine ⟨true, rfl, ⟨fun _ => ?_, fun _ => rfl⟩, DR.out⟩
        have := HT.out
        rwa [List.take_of_length_le (by rw [HN.out.1]; exact Nat.le_refl _), List.take_of_length_le (by rw [HN.out.2]; exact Nat.le_refl _)] at this
  · have hl' : ((a.length : Int) != (b.length : Int)) = true := by simp; omega
    go_wp2
    go_ret
    exact ⟨false, rfl, ⟨fun h => (by cases h), fun h => absurd (congrArg List.length h) hl⟩, Drawn0.refl _⟩
set_option maxRecDepth 100000 in
theorem sameev_calls (w : World) (A B : Option Addr) (cA cB : Nat) (a b : List (List Value)) (hA : ES w A a) (hB : ES w B b) (ha : a.length ≤ 1000000) (hb : b.length ≤ 1000000) :
    Calls Try.prog 12 #[.slice A a.length cA, .slice B b.length cB] w fun e w' => ∃ x, e = .returned (.bool x) ∧ (x = true ↔ a = b) ∧ Drawn0 w w' := by
  have H := Aside0.mk (eqe_calls w A B cA cB a b hA hB ha hb)
  clear hA hB ha hb
  go_enter Try.func12, Try.ntmps12
  go_wp2_with fail
  refine H.out.mono ?_
  rintro e w1 ⟨x, rfl, hx, d⟩
  have HX := Aside0.mk (And.intro hx d)
  clear hx d H
  go_wp2_with fail
  go_ret
  exact ⟨x, rfl, HX.out.1, HX.out.2⟩
end Go.Proofs.Ytfnbpmkbjbibkaa
