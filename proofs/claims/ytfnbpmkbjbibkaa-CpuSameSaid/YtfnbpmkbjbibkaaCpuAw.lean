/- Does a machine answer at all? (PK=PCpuNils) -/
import Derived.Test.YtfnbpmkbjbibkaaCpuE
import Derived.Deep.LoopGhost
namespace Go.Proofs.Ytfnbpmkbjbibkaa
open Go Go.RowKit Go.Deep Go.Great Go.Proofs.YtfnbpmkbjbibkaaW.PrintWords Go.Proofs.Ytfnbpmkbjbibkaa.QCpuSame
set_option linter.unusedVariables false
set_option linter.unusedSimpArgs false

def kE : List (Option IntKind) := some .i64 :: some .u64 :: List.replicate 43 (some .u32)
theorem kE_of : kindsOf Try.prog 20 46 = some kE := by kernel_rfl
theorem ev_size : (Try.prog.info? 46).map (·.size) = some 45 := by kernel_rfl
theorem Fits.len45 {e : List Value} (h : Fits kE e) : e.length = 45 := h.len
/-- The slice at A reads as the events evs. -/
def ES (w : World) (A : Option Addr) (evs : List (List Value)) : Prop := ∀ (i : Nat) e, evs[i]? = some e → Fits kE e ∧ ∃ ad, A = some ad ∧ ∀ j v, e[j]? = some v → w.cell? (ad.add (i * 45 + j)) = some v
theorem ES.below {w w' : World} {A : Option Addr} {evs : List (List Value)} (h : ES w A evs) (k : Below w.heap.size w w') : ES w' A evs := fun i e hi => by
  obtain ⟨h1, ad, h2, h3⟩ := h i e hi
  exact ⟨h1, ad, h2, fun j v hj => pw_cell_below k (h3 j v hj)⟩
theorem ES.drawn {w w' : World} {A : Option Addr} {evs : List (List Value)} (h : ES w A evs) (k : Drawn0 w w') : ES w' A evs := h.below k.below
theorem ES.nil (w : World) (A : Option Addr) : ES w A [] := fun i e h => by cases h
theorem row_agg (t : TypeId) (h : (match Try.prog.underlying t with | some (.struct _) | some (.array _ _) => true | _ => false) = true) : (match Try.prog.underlying t with | some (.struct _) | some (.array _ _) => true | _ => false) = true := h

def postEv (A B : Option Addr) (n cA cB k : Nat) (ad bd : Addr) (e f : List Value) (i : Nat) (v : Value) (w : World) : Prop :=
  match i with
  | 0 => v = .slice A n cA
  | 1 => v = .int .i64 (k : Int)
  | 2 => v = .pointer (some (ad.add (k * 45)))
  | 3 => v = .agg e.toArray
  | 4 => v = .slice B n cB
  | 5 => v = .int .i64 (k : Int)
  | 6 => v = .pointer (some (bd.add (k * 45)))
  | 7 => v = .agg f.toArray
  | 8 => ∃ b, v = .bool (!b) ∧ (b = true ↔ e = f)
  | _ => True

set_option maxRecDepth 100000 in
set_option maxHeartbeats 4000000 in
theorem eqe_calls (w : World) (A B : Option Addr) (cA cB : Nat) (a b : List (List Value)) (hA : ES w A a) (hB : ES w B b) (ha : a.length ≤ 1000000) (hb : b.length ≤ 1000000) :
    Calls Try.prog 43 #[.slice A a.length cA, .slice B b.length cB] w fun e w' => ∃ x, e = .returned (.bool x) ∧ (x = true ↔ a = b) ∧ Drawn0 w w' := by
  have HA := Aside0.mk hA
  have HB := Aside0.mk hB
  have HLA := Aside0.mk ha
  have HLB := Aside0.mk hb
  clear hA hB ha hb
  go_enter Try.func43, Try.ntmps43
  by_cases hl : a.length = b.length
  · have hl' : ((a.length : Int) != (b.length : Int)) = false := by simp [hl]
    go_wp2_with fail
    have D0 : Aside0 (Drawn0 w w) := ⟨Drawn0.refl _⟩
    obtain ⟨n, hn⟩ : ∃ n, b.length = n := ⟨_, rfl⟩
    have HN : Aside0 (a.length = n ∧ b.length = n) := ⟨⟨hl.trans hn, hn⟩⟩
    rw [hn] at hl' ⊢
    simp only [show a.length = n from hl.trans hn] at hl' ⊢
    clear hl hn hl'
    go_loopg [13] (n + 1) (fun g i wr => ∃ k : Nat, g + k = n + 1 ∧ k ≤ n ∧ i = .int .i64 (k : Int) ∧ Aside0 (Drawn0 w wr) ∧ Aside0 (a.take k = b.take k))
    case atStart => exact ⟨0, by omega, by omega, rfl, D0, ⟨rfl⟩⟩
    case round =>
      obtain ⟨k, hgk, hkn, rfl, DR, HT⟩ := hrel
      clear D0
      by_cases hlt : k < n
      · have hlt' : ((k : Int) < (n : Int)) = True := by simp; omega
        obtain ⟨e, he⟩ : ∃ e, a[k]? = some e := ⟨_, List.getElem?_eq_getElem (by rw [HN.out.1]; exact hlt)⟩
        obtain ⟨f, hf⟩ : ∃ e, b[k]? = some e := ⟨_, List.getElem?_eq_getElem (by rw [HN.out.2]; exact hlt)⟩
        obtain ⟨fe, ad, rfl, he'⟩ := HA.out k e he
        obtain ⟨ff, bd, rfl, hf'⟩ := HB.out k f hf
        have HE := Aside0.mk (And.intro he (And.intro fe fun j v h => pw_cell_below DR.out.below (he' j v h)))
        have HF := Aside0.mk (And.intro hf (And.intro ff fun j v h => pw_cell_below DR.out.below (hf' j v h)))
        clear he hf fe ff he' hf'
        go_upto_region 6 with fail
        refine wp_region_rj (by kernel_rfl) 9 (fun W' => Drawn0 wr W') (fun x y => True) (postEv (some ad) (some bd) n cA cB k ad bd e f) (by kernel_rfl) (fun _ _ _ _ h _ => h) ((Drawn0.refl wr).step 1) ?step ?fin
        case step =>
          intro i op hi him c W' hinv hkeep hdef hpre K hK
          have HI := Aside0.mk hinv
          have HPRE := Aside0.mk hpre
          have HKEEP := Aside0.mk hkeep
          have HKK := Aside0.mk hK
          clear hinv hpre hkeep hK hdef
          obtain rfl | rfl | rfl | rfl | rfl | rfl | rfl | rfl | rfl : i = 0 ∨ i = 1 ∨ i = 2 ∨ i = 3 ∨ i = 4 ∨ i = 5 ∨ i = 6 ∨ i = 7 ∨ i = 8 := by omega
          · cases hi
            have e0 : c.tmps.getD 0 undef = .slice (some ad) n cA := HKEEP.out 0 (by kernel_rfl)
            rw [if_pos (by rfl)]
            go_simp
            exact HKK.out _ _ HI.out trivial (by first | rfl | (simp; done))
          · cases hi
            have e0 : c.tmps.getD 5 undef = .int .i64 (k : Int) := HKEEP.out 5 (by kernel_rfl)
            rw [if_pos (by rfl)]
            go_simp
            exact HKK.out _ _ HI.out trivial (by first | rfl | (simp; done))
          · cases hi
            have e0 : c.tmps.getD 16 undef = .slice (some ad) n cA := HPRE.out 0 (by kernel_rfl) (by omega)
            have e1 : c.tmps.getD 17 undef = .int .i64 (k : Int) := HPRE.out 1 (by kernel_rfl) (by omega)
            rw [if_pos (by rfl)]
            go_simp
            exact HKK.out _ _ HI.out trivial (by first | rfl | (simp; done))
          · cases hi
            have e0 : c.tmps.getD 18 undef = .pointer (some (ad.add (k * 45))) := HPRE.out 2 (by kernel_rfl) (by omega)
            rw [if_pos (by rfl)]
            refine wp_load_at 46 (.tmp 18) rfl (ad.add (k * 45)) e0 e (fun j v hj => by rw [Go.Deep.add_add]; exact pw_cell_below HI.out.below (HE.out.2.2 j v hj)) (by kernel_rfl) (by rw [HE.out.2.1.len45]; exact ev_size) ?_
            exact HKK.out _ _ HI.out trivial rfl
          · cases hi
            have e0 : c.tmps.getD 1 undef = .slice (some bd) n cB := HKEEP.out 1 (by kernel_rfl)
            rw [if_pos (by rfl)]
            go_simp
            exact HKK.out _ _ HI.out trivial (by first | rfl | (simp; done))
          · cases hi
            have e0 : c.tmps.getD 5 undef = .int .i64 (k : Int) := HKEEP.out 5 (by kernel_rfl)
            rw [if_pos (by rfl)]
            go_simp
            exact HKK.out _ _ HI.out trivial (by first | rfl | (simp; done))
          · cases hi
            have e0 : c.tmps.getD 20 undef = .slice (some bd) n cB := HPRE.out 4 (by kernel_rfl) (by omega)
            have e1 : c.tmps.getD 21 undef = .int .i64 (k : Int) := HPRE.out 5 (by kernel_rfl) (by omega)
            rw [if_pos (by rfl)]
            go_simp
            exact HKK.out _ _ HI.out trivial (by first | rfl | (simp; done))
          · cases hi
            have e0 : c.tmps.getD 22 undef = .pointer (some (bd.add (k * 45))) := HPRE.out 6 (by kernel_rfl) (by omega)
            rw [if_pos (by rfl)]
            refine wp_load_at 46 (.tmp 22) rfl (bd.add (k * 45)) e0 f (fun j v hj => by rw [Go.Deep.add_add]; exact pw_cell_below HI.out.below (HF.out.2.2 j v hj)) (by kernel_rfl) (by rw [HF.out.2.1.len45]; exact ev_size) ?_
            exact HKK.out _ _ HI.out trivial rfl
          · cases hi
            have e0 : c.tmps.getD 19 undef = .agg e.toArray := HPRE.out 3 (by kernel_rfl) (by omega)
            have e1 : c.tmps.getD 23 undef = .agg f.toArray := HPRE.out 7 (by kernel_rfl) (by omega)
            rw [if_pos (by rfl)]
            refine wp_neq_flat 46 46 (.tmp 19) (.tmp 23) rfl kE kE_of (by kernel_rfl) (by kernel_rfl) e f e0 e1 HE.out.2.1 HF.out.2.1 ?_
            intro x hx
            exact HKK.out _ _ HI.out trivial ⟨x, rfl, hx⟩
        case fin =>
          intro c W' hinv hsz hdef hkeep hpost
          obtain ⟨x, hx, hxe⟩ := hpost 8 (by omega)
          have e24 : c.tmps.getD 24 undef = .bool (!x) := hx
          refine rj_all (by kernel_rfl) (by kernel_rfl) ?_
          obtain ⟨sl, hlit, hsl⟩ := act_let c 26 hsz
          rw [hdef] at hlit
          have k0 : sl 0 = .slice (some ad) n cA := (hsl 0).trans (hkeep 0 (by kernel_rfl))
          have k1 : sl 1 = .slice (some bd) n cB := (hsl 1).trans (hkeep 1 (by kernel_rfl))
          have k2 : sl 2 = undef := (hsl 2).trans (hkeep 2 (by kernel_rfl))
          have k3 : sl 3 = undef := (hsl 3).trans (hkeep 3 (by kernel_rfl))
          have k4 : sl 4 = u4 := (hsl 4).trans (hkeep 4 (by kernel_rfl))
          have k5 : sl 5 = .int .i64 (k : Int) := (hsl 5).trans (hkeep 5 (by kernel_rfl))
          have k6 : sl 6 = .slice (some ad) n cA := (hsl 6).trans (hkeep 6 (by kernel_rfl))
          have k7 : sl 7 = .int .i64 (n : Int) := (hsl 7).trans (hkeep 7 (by kernel_rfl))
          have k8 : sl 8 = .slice (some bd) n cB := (hsl 8).trans (hkeep 8 (by kernel_rfl))
          have k9 : sl 9 = .int .i64 (n : Int) := (hsl 9).trans (hkeep 9 (by kernel_rfl))
          have k10 : sl 10 = .bool false := (hsl 10).trans (hkeep 10 (by kernel_rfl))
          have k11 : sl 11 = .slice (some ad) n cA := (hsl 11).trans (hkeep 11 (by kernel_rfl))
          have k12 : sl 12 = .int .i64 (n : Int) := (hsl 12).trans (hkeep 12 (by kernel_rfl))
          have k13 : sl 13 = .int .i64 (k : Int) := (hsl 13).trans (hkeep 13 (by kernel_rfl))
          have k14 : sl 14 = .bool true := (hsl 14).trans (hkeep 14 (by kernel_rfl))
          have k15 : sl 15 = .int .i64 (k : Int) := (hsl 15).trans (hkeep 15 (by kernel_rfl))
          rw [← hsl] at e24
          simp only [show List.range 26 = [0, 1, 2, 3, 4, 5, 6, 7, 8, 9, 10, 11, 12, 13, 14, 15, 16, 17, 18, 19, 20, 21, 22, 23, 24, 25] from rfl, List.map_cons, List.map_nil, e24, k0, k1, k2, k3, k4, k5, k6, k7, k8, k9, k10, k11, k12, k13, k14, k15] at hlit
          rw [hlit]
          have DR2 : Aside0 (Drawn0 w W') := ⟨by obtain ⟨k1, h1⟩ := hinv.out; rw [h1]; exact DR.out.step k1⟩
          clear hkeep hsz hdef hsl hlit hpost hinv e24 hx k0 k1 k2 k3 k4 k5 k6 k7 k8 k9 k10 k11 k12 k13 k14 k15
          cases x with
          | false =>
            have hne : ¬ e = f := fun h => by cases hxe.2 h
            go_wp2_with fail
            go_ret
            refine ⟨false, rfl, ⟨fun h => (by cases h), fun h => absurd ?_ hne⟩, DR2.out⟩
            have h1 := HE.out.1
            rw [h, HF.out.1] at h1
            exact (Option.some.inj h1).symm
          | true =>
            obtain rfl := hxe.1 rfl
            have HT2 : Aside0 (a.take (k + 1) = b.take (k + 1)) := ⟨by
              rw [List.take_add_one, List.take_add_one, HT.out, HE.out.1, HF.out.1]⟩
            clear hxe
            go_wp2_with fail
            go_roundg (gk - 1)
            case measure => omega
            case rel => exact ⟨k + 1, by omega, by omega, by have h1 := HLA.out; have h2 := HN.out.1; congr 1; unfold wrap64; omega, DR2, HT2⟩
      · obtain rfl : k = n := by omega
        have hlt' : ((k : Int) < (k : Int)) = False := by simp
        go_wp2_with fail
        go_ret
        refine ⟨true, rfl, ⟨fun _ => ?_, fun _ => rfl⟩, DR.out⟩
        have := HT.out
        rwa [List.take_of_length_le (by rw [HN.out.1]; exact Nat.le_refl _), List.take_of_length_le (by rw [HN.out.2]; exact Nat.le_refl _)] at this
  · have hl' : ((a.length : Int) != (b.length : Int)) = true := by simp; omega
    go_wp2
    go_ret
    exact ⟨false, rfl, ⟨fun h => (by cases h), fun h => absurd (congrArg List.length h) hl⟩, Drawn0.refl _⟩
set_option maxRecDepth 100000 in
theorem sameev_calls (w : World) (A B : Option Addr) (cA cB : Nat) (a b : List (List Value)) (hA : ES w A a) (hB : ES w B b) (ha : a.length ≤ 1000000) (hb : b.length ≤ 1000000) :
    Calls Try.prog 12 #[.slice A a.length cA, .slice B b.length cB] w fun e w' => ∃ x, e = .returned (.bool x) ∧ (x = true ↔ a = b) ∧ Drawn0 w w' := by
  have H := Aside0.mk (eqe_calls w A B cA cB a b hA hB ha hb)
  clear hA hB ha hb
  go_enter Try.func12, Try.ntmps12
  go_wp2_with fail
  refine H.out.mono ?_
  rintro e w1 ⟨x, rfl, hx, d⟩
  have HX := Aside0.mk (And.intro hx d)
  clear hx d H
  go_wp2_with fail
  go_ret
  exact ⟨x, rfl, HX.out.1, HX.out.2⟩
end Go.Proofs.Ytfnbpmkbjbibkaa

namespace Go.Proofs.Ytfnbpmkbjbibkaa
open Go Go.RowKit Go.Deep Go.Great Go.Proofs.YtfnbpmkbjbibkaaW.PrintWords Go.Proofs.Ytfnbpmkbjbibkaa.QCpuSame
set_option linter.unusedVariables false
set_option linter.unusedSimpArgs false

def zE : List Value := .int .i64 0 :: .int .u64 0 :: List.replicate 43 (.int .u32 0)
theorem infoE : (Try.prog.info? 46).map (fun i => (i.zero, i.size, i.bytes)) = some (some (.agg zE.toArray), 45, 192) := by kernel_rfl
theorem flat_len : ∀ (evs : List (List Value)), (∀ e ∈ evs, Fits kE e) → evs.flatten.length = evs.length * 45
  | [], _ => rfl
  | e :: evs, h => by
    have := flat_len evs (fun x hx => h x (List.mem_cons_of_mem _ hx))
    have h1 := (h e (List.mem_cons_self ..)).len45
    simp [this, h1]
    omega
theorem flat_get : ∀ (evs : List (List Value)), (∀ e ∈ evs, Fits kE e) → ∀ (i : Nat) e, evs[i]? = some e → ∀ j v, e[j]? = some v → evs.flatten[i * 45 + j]? = some v
  | [], _, i, e, h, _, _, _ => by cases h
  | e :: evs, hf, 0, x, h, j, v, hj => by
    obtain rfl := Option.some.inj h
    rw [Nat.zero_mul, Nat.zero_add, List.flatten_cons, List.getElem?_append_left (List.getElem?_eq_some_iff.1 hj).1, hj]
  | e :: evs, hf, i + 1, x, h, j, v, hj => by
    have h1 := (hf e (List.mem_cons_self ..)).len45
    rw [List.flatten_cons, List.getElem?_append_right (by omega), h1, show (i + 1) * 45 + j - 45 = i * 45 + j by omega]
    exact flat_get evs (fun x hx => hf x (List.mem_cons_of_mem _ hx)) i x h j v hj
theorem flat_one {evs : List (List Value)} (h : ∀ e ∈ evs, Fits kE e) : ∀ u ∈ evs.flatten, u.oneCell' = true := by
  intro u hu
  obtain ⟨e, he, hu⟩ := List.mem_flatten.1 hu
  exact (h e he).one u hu
/-- An owned list of events. -/
structure EO (base : Nat) (w : World) (v : Value) (evs : List (List Value)) : Prop where
  o : w.ownsRow base 46 45 v evs.length evs.flatten
  f : ∀ e ∈ evs, Fits kE e
theorem EO.below {base : Nat} {w w' : World} {v : Value} {evs : List (List Value)} (h : EO base w v evs) (k : Below w.heap.size w w') : EO base w' v evs := ⟨owns_below h.o k, h.f⟩
theorem EO.only {base : Nat} {w w' : World} {v : Value} {evs : List (List Value)} {B t : Nat} {cs : Array Value} {fr : Nat × Nat} (h : EO base w v evs) (ho : Only B w w') (hB : w.heap[B]? = some (.cells cs t fr)) (hn : t ≠ 46) : EO base w' v evs :=
  ⟨owns_move h.o fun i hi => ho.block i (by
    rcases h.o.2 with ⟨rfl, _⟩ | ⟨g', cap, cur, rfl, hg', hh, _⟩
    · cases hi
    · obtain rfl : g' = i := by simpa [Value.ownBlock] using hi
      exact blk_lt hh) (fun e => owns_ne h.o hB (Ne.symm hn) (e ▸ hi)), h.f⟩
theorem EO.wide {base base' : Nat} {w : World} {v : Value} {evs : List (List Value)} (h : EO base w v evs) (hb : base' ≤ base) : EO base' w v evs := ⟨con_zero_base h.o hb, h.f⟩
theorem st_eo {base : Nat} {v : Value} {evs : List (List Value)} : St (fun w => EO base w v evs) :=
  ⟨fun w w' q d => q.below d, fun w w' g cs q hg ho => q.only ho hg (by decide)⟩
theorem EO.nil (base : Nat) (w : World) : EO base w (.slice none 0 0) [] := ⟨World.ownsRow_nil _ _ _ _, fun e h => by cases h⟩
theorem EO.es {base : Nat} {w : World} {v : Value} {evs : List (List Value)} (h : EO base w v evs) : ∃ A c, v = .slice A evs.length c ∧ evs.length ≤ c ∧ (A = none → evs = [] ∧ c = 0) ∧ ES w A evs := by
  rcases h.o.2 with ⟨rfl, h0⟩ | ⟨g, cap, cur, rfl, _, _, hc, _⟩
  · have hq0 : evs = [] := List.eq_nil_of_length_eq_zero h0
    subst hq0
    exact ⟨none, 0, rfl, Nat.le_refl _, fun _ => ⟨rfl, rfl⟩, ES.nil _ _⟩
  · refine ⟨some ⟨g, 0, none⟩, cap, rfl, hc, (fun e => by cases e), fun i e hi => ⟨h.f e (List.mem_of_getElem? hi), _, rfl, fun j v hj => ?_⟩⟩
    exact h.o.cells rfl _ _ (flat_get evs h.f i e hi j v hj)

set_option maxRecDepth 100000 in
theorem clonee_nil (w : World) : Calls Try.prog 34 #[.slice none 0 0] w fun e w' => e = .returned (.slice none 0 0) ∧ Drawn0 w w' := by
  have q22 : ∀ (w : World) (a : Option Addr) (n c n' c' : Nat), (binOp .eql 33 (.slice a n c) (.slice none n' c')).run Try.prog w = .ok (.bool a.isNone) w := fun w a n c n' c' => Lib.run_eql_slice_nil w _ _ a n c n' c' Try.underlying33
  go_enter Try.func34, Try.ntmps34
  go_wp2
  go_ret
  exact ⟨rfl, Drawn0.refl _⟩
set_option maxRecDepth 100000 in
set_option maxHeartbeats 1000000 in
theorem clonee_some (w : World) (ad : Addr) (n c : Nat) (xs : List Value) (hx : xs.length = n * 45) (hn : n ≤ 65536) (hc : ∀ j u, xs[j]? = some u → w.cell? (ad.add j) = some u) (h1 : ∀ u ∈ xs, u.oneCell' = true) : Calls Try.prog 34 #[.slice (some ad) n c] w fun e w' => ∃ v, e = .returned v ∧ w'.ownsRow w.heap.size 46 45 v n xs ∧ Below w.heap.size w w' := by
  obtain ⟨i0, hi, hz0, hz1, hz2⟩ := info_parts infoE
  have HC := Aside0.mk (fun o j u (hu : xs[j]? = some u) => pw_cell_below (below_alloc (Below.refl _ _) o) (hc j u hu))
  have hown0 : (w.alloc (.cells #[] 46)).ownsRow w.heap.size 46 45 (.slice (some ⟨w.heap.size, 0, none⟩) 0 0) 0 [] := by
    have := World.ownsRow_lit (base := w.heap.size) (e := 46) (size := 45) w #[] 0 (Nat.le_refl _) (by decide) rfl
    simpa using this
  have HO := Aside0.mk hown0
  have HB := Aside0.mk (below_alloc (Below.refl w.heap.size w) (.cells #[] 46))
  have HX := Aside0.mk hx
  have H1 := Aside0.mk h1
  clear hc hown0 hx h1
  have q22 : ∀ (w : World) (a : Option Addr) (n c n' c' : Nat), (binOp .eql 33 (.slice a n c) (.slice none n' c')).run Try.prog w = .ok (.bool a.isNone) w := fun w a n c n' c' => Lib.run_eql_slice_nil w _ _ a n c n' c' Try.underlying33
  go_enter Try.func34, Try.ntmps34
  go_wp2_with (at_builtin; refine wpList_append_own _ rfl (.tmp 5) (.tmp 6) 33 rfl w.heap.size 46 i0 (.agg zE.toArray) 45 192 Try.underlying33 hi hz0 hz1 hz2 rfl (by decide) _ 0 [] rfl HO.out ad n c xs rfl ?h1 ?h2 H1.out ?h3 ?h4 ?h5 ?_; (case h1 => exact HX.out); (case h2 => exact HC.out _); (case h3 => simp only [maxLen]; omega); (case h4 => omega); (case h5 => simp); intro v1 w1 hown1 hgrow1 _; simp only [Nat.zero_add, List.nil_append] at hown1; have hb1 := Aside0.mk (HB.out.grown hgrow1 HB.out.size (fun k hk => (HO.out.lt k hk).1)); have HO1 := Aside0.mk hown1; clear hown1 hgrow1)
  go_ret
  exact ⟨v1, rfl, HO1.out, hb1.out⟩
/-- Owned events, cloned. -/
theorem clonee_owned {w : World} {base : Nat} {v : Value} {evs : List (List Value)} (h : EO base w v evs) (hq : evs.length ≤ 65536) : Calls Try.prog 34 #[v] w fun e w' => ∃ A m c, e = .returned (.slice A m c) ∧ EO w.heap.size w' (.slice A m c) evs ∧ Below w.heap.size w w' := by
  rcases h.o.2 with ⟨rfl, h0⟩ | ⟨g, cap, cur, rfl, _⟩
  · have hq0 : evs = [] := List.eq_nil_of_length_eq_zero h0
    subst hq0
    exact (clonee_nil w).mono fun e w' ⟨he, d⟩ => ⟨none, 0, 0, he, EO.nil _ _, d.below⟩
  · refine (clonee_some w ⟨g, 0, none⟩ evs.length cap evs.flatten (flat_len evs h.f) hq (h.o.cells rfl) (flat_one h.f)).mono fun e w' ⟨v, he, ho, d⟩ => ?_
    obtain ⟨A, c, rfl⟩ := owns_form ho
    exact ⟨A, _, c, he, ⟨ho, h.f⟩, d⟩
/-- A machine's state, its events owned. -/
theorem cstate_eva {W w : World} {p : Nat} {pc : Int} {rg fl : List Value} {tk rt : Int} {ev : Value} {B R C T BB BW BG n k : Nat} {X : Nat → Prop} {l : List Int} {ws : List Bool} {gs : List Int} {al : List (Int × Int)} {came : Nat} {q : List Int} {over : Bool} {out : List Int} {o m : Int} {s off : Bool} {code : Int} (h : MC W w p pc rg fl tk rt ev B R C T BB BW BG n k X l ws gs al came q over out o m s off code) {base : Nat} {evs : List (List Value)} (he : EO base w ev evs) (hle : evs.length ≤ 65536) (hn0 : 0 < n) (hout : out.length ≤ 65536) :
    Calls Try.prog 10 #[.pointer (some ⟨p, 0, none⟩)] w fun e w' => ∃ vr vx vo ve, e = .returned (.agg (cH pc rg fl tk rt (sL vr vx vo over came o m s off code ve)).toArray) ∧
      w'.ownsRow w.heap.size 5 1 vr n (l.map (Value.int .u8)) ∧ w'.ownsRow w.heap.size 5 1 vx q.length (q.map (Value.int .u8)) ∧ w'.ownsRow w.heap.size 5 1 vo out.length (out.map (Value.int .u8)) ∧ EO w.heap.size w' ve evs ∧ Below w.heap.size w w' ∧ (∀ i, vx.ownBlock = some i → vr.ownBlock ≠ some i) ∧ (∀ i, vo.ownBlock = some i → vr.ownBlock ≠ some i) :=
  (cstate_apart h (fun v w' => EO w.heap.size w' v evs) (fun v => st_eo) (fun w' hb => (clonee_owned (he.below hb) hle).mono fun e w2 ⟨A, m, c, h1, h2, h3⟩ => ⟨A, m, c, h1, h2.wide hb.size, h3⟩) hn0 hout).mono fun e w' ⟨vr, vx, vo, ve, h1, h2, h3, h4, h5, _, h6, h7⟩ => ⟨vr, vx, vo, ve, h1, h2, h3, h4, h5, h6, h7⟩

/-- A machine's state, its events owned. -/
theorem cstate_ev {W w : World} {p : Nat} {pc : Int} {rg fl : List Value} {tk rt : Int} {ev : Value} {B R C T BB BW BG n k : Nat} {X : Nat → Prop} {l : List Int} {ws : List Bool} {gs : List Int} {al : List (Int × Int)} {came : Nat} {q : List Int} {over : Bool} {out : List Int} {o m : Int} {s off : Bool} {code : Int} (h : MC W w p pc rg fl tk rt ev B R C T BB BW BG n k X l ws gs al came q over out o m s off code) {base : Nat} {evs : List (List Value)} (he : EO base w ev evs) (hle : evs.length ≤ 65536) (hn0 : 0 < n) (hout : out.length ≤ 65536) :
    Calls Try.prog 10 #[.pointer (some ⟨p, 0, none⟩)] w fun e w' => ∃ vr vx vo ve, e = .returned (.agg (cH pc rg fl tk rt (sL vr vx vo over came o m s off code ve)).toArray) ∧
      w'.ownsRow w.heap.size 5 1 vr n (l.map (Value.int .u8)) ∧ w'.ownsRow w.heap.size 5 1 vx q.length (q.map (Value.int .u8)) ∧ w'.ownsRow w.heap.size 5 1 vo out.length (out.map (Value.int .u8)) ∧ EO w.heap.size w' ve evs ∧ Below w.heap.size w w' :=
  (cstate_eva h he hle hn0 hout).mono fun e w' ⟨vr, vx, vo, ve, h1, h2, h3, h4, h5, h6, _⟩ => ⟨vr, vx, vo, ve, h1, h2, h3, h4, h5, h6⟩
end Go.Proofs.Ytfnbpmkbjbibkaa

namespace Go.Proofs.Ytfnbpmkbjbibkaa
open Go Go.RowKit Go.Deep Go.Great Go.Proofs.YtfnbpmkbjbibkaaW.PrintWords Go.Proofs.Ytfnbpmkbjbibkaa.QCpuSame
set_option linter.unusedVariables false
set_option linter.unusedSimpArgs false

set_option maxRecDepth 100000 in
set_option maxHeartbeats 2000000 in
theorem lay_nil {w : World} {R BB BW BG n k : Nat} {l : List Int} {ws : List Bool} {gs : List Int} (h : IsRam w R BB BW BG n k l ws gs) : Calls Try.prog 45 #[.pointer (some ⟨R, 0, none⟩), .slice none 0 0] w fun e w' => e = .returned (.int .i64 0) ∧ Below w.heap.size w w' := by
  have H := Aside0.mk h
  have HC := Aside0.mk (fun w' => image_Check.calls 5 none 0 [] (n : Int) 0 w' (Kd.C_nil _ _) (Nat.le_refl _) (by rfl))
  clear h
  go_enter Try.func45, Try.ntmps45
  go_wp2_with fail
  refine (size_calls _ H.out).mono ?_
  rintro e w1 ⟨rfl, d1⟩
  have D1 := Aside0.mk d1
  clear d1
  go_wp2_with fail
  refine (HC.out w1).mono ?_
  rintro e w2 ⟨rfl, b2⟩
  have B2 := Aside0.mk (below_on D1.out.below b2)
  clear b2 D1 HC
  go_wp2_with fail
  go_loopg [19] 1 (fun g i wr => g = 1 ∧ i = .int .i64 0 ∧ Aside0 (Below w.heap.size w wr))
  case atStart => exact ⟨rfl, rfl, B2⟩
  case round =>
    obtain ⟨rfl, rfl, BR⟩ := hrel
    clear B2
    go_wp2_with fail
    go_ret
    exact ⟨rfl, BR.out⟩
/-- The machine of a program that is no more than asked after. -/
theorem arow_C (w : World) (A : Option Addr) (al : List (Int × Int)) : AR w none [] := fun i p hp => by cases hp
set_option maxRecDepth 100000 in
set_option maxHeartbeats 4000000 in
theorem cpu_awake_calls (w : World) : Calls Try.prog 8 #[] w fun e w' => e = .returned (.bool true) ∧ Below w.heap.size w w' := by
  have HNEW := Aside0.mk (cnew_ok w w (Below.refl _ _) 64 (by decide) (by decide) (by decide) none 0 0 (List.replicate 64 0) (fun w1 R BB BW BG hb h1 h2 h3 h4 hr => (lay_nil hr).mono fun e w2 ⟨he, hb2⟩ => ⟨he, ⟨_, _, hr.below hb2⟩, OnlyP.of_below hb2⟩) none 0 [] (arow_C w none []) (fun _ => ⟨rfl, rfl⟩) (fun p hp => by cases hp) (by decide) (by intro i; intros; simp_all))
  go_enter Try.func8, Try.ntmps8
  go_wp2_with fail
  refine HNEW.out.mono ?_
  rintro e w1 ⟨p, B, R, C, T, BB, BW, BG, X, ws, gs, rfl, mc, b1⟩
  have M1 := Aside0.mk mc
  have B1 := Aside0.mk b1
  clear mc b1 HNEW
  go_wp2_with fail
  refine (cset_ok M1.out.im 5 (by decide) (by decide) 7).mono ?_
  rintro e w2 ⟨rfl, im2, o2⟩
  have M2 := Aside0.mk (M1.out.own im2 o2)
  have B2 := Aside0.mk (o2.below M1.out.ap B1.out)
  clear im2 o2 M1 B1
  go_wp2_with fail
  refine (cretire_ok M2.out.im 2147483652).mono ?_
  rintro e w3 ⟨rfl, im3, o3⟩
  have M3 := Aside0.mk (M2.out.own im3 o3)
  have B3 := Aside0.mk (o3.below M2.out.ap B2.out)
  clear im3 o3 M2 B2
  go_wp2_with fail
  refine (cstate_ev M3.out (EO.nil w.heap.size w3) (by decide) (by decide) (by decide)).mono ?_
  rintro e w4 ⟨vr, vx, vo, ve, rfl, o1, o2, o3, eo, b4⟩
  have B4 := Aside0.mk (below_on B3.out b4)
  have HO := Aside0.mk (And.intro o1 (And.intro o2 (And.intro o3 eo)))
  clear o1 o2 o3 eo b4 M3 B3
  have HDS : Aside0 (w.heap.size ≤ w4.heap.size) := ⟨B4.out.size⟩
  have HR : Aside0 ((rZ.set 5 (.int .u32 7)).length = 32 ∧ (∀ v ∈ rZ.set 5 (.int .u32 7), v.oneCell' = true) ∧ (rZ.set 5 (Value.int .u32 7))[5]? = some (.int .u32 7)) := ⟨by simp [rZ_len], fun v hv => by
    rcases List.mem_or_eq_of_mem_set hv with hv | rfl
    · exact rZ_one v hv
    · rfl, rfl⟩
  have HW : Aside0 (IntKind.u64.wrap (0 + 1) = 1) := ⟨by decide⟩
  rw [HW.out]
  generalize rZ.set 5 (Value.int .u32 7) = rg at HR ⊢
  have HFO := Aside0.mk fN_one
  have HFL : Aside0 (fN.length = 9 ∧ fN[0]? = some (.int .u32 6144)) := ⟨⟨rfl, rfl⟩⟩
  generalize fN = fl at HFO HFL ⊢
  have HL1 : Aside0 (∀ v ∈ sL vr vx vo false ((0 : Nat) : Int) 0 18446744073709551615 false false 0 ve, v.oneCell' = true) := ⟨by
    obtain ⟨_, _, rfl⟩ := owns_form HO.out.1
    obtain ⟨_, _, rfl⟩ := owns_form HO.out.2.1
    obtain ⟨_, _, rfl⟩ := owns_form HO.out.2.2.1
    obtain ⟨_, _, rfl, _⟩ := HO.out.2.2.2.es
    simp [sL, Value.oneCell']⟩
  generalize hLL : sL vr vx vo false ((0 : Nat) : Int) 0 18446744073709551615 false false 0 ve = L at HL1 ⊢
  have HLL : Aside0 (L[6]? = some (.int .u64 18446744073709551615) ∧ L.length = 11) := ⟨by rw [← hLL]; exact ⟨rfl, rfl⟩⟩
  clear hLL HO
  go_upto_region 5 with (first
    | (refine wpList_alloc_z rfl 43 rfl zS zS_zero ?_; intro w5 hb5 hB5; have HB5 := Aside0.mk hb5; have BB5 := Aside0.mk (below_on B4.out hB5); clear hb5 hB5)
    | ((with_reducible refine gate_store (t := 43) (p := 3) (v := .tmp 13) rfl ?_); refine wpList_store_arr rfl 43 (.tmp 3) (.tmp 13) rfl w4.heap.size rfl (cH 2147483652 rg fl 1 1 L).toArray rfl zS 43 HB5.out (by rw [zS_size, cH_size HR.out.1 HFL.out.1, HLL.out.2]) (by rw [cH_size HR.out.1 HFL.out.1, HLL.out.2]; exact st_size) (cH_one HR.out.2.1 HFO.out HL1.out) ?_; intro w6 hf ho; have HF6 := Aside0.mk hf; have B6 := Aside0.mk (ho.below HDS.out BB5.out); clear hf ho))
  clear HDS BB5 HB5 B4
  generalize w4.heap.size = D at HF6 ⊢
  have c0 : w6.cell? ⟨D, 0, none⟩ = some (.int .u32 2147483652) := at_P HF6.out
  have c6 : w6.cell? ⟨D, 6, none⟩ = some (.int .u32 7) := by
    rw [cell_of_row w6 D 6 _ _ _ HF6.out, List.getElem?_toArray, show 6 = 1 + 5 from rfl]; exact cH_r HR.out.1 HFL.out.1 5 _ HR.out.2.2
  have c33 : w6.cell? ⟨D, 33, none⟩ = some (.int .u32 6144) := by
    rw [cell_of_row w6 D 33 _ _ _ HF6.out, List.getElem?_toArray, show 33 = 33 + 0 from rfl]; exact cH_f HR.out.1 HFL.out.1 0 _ HFL.out.2
  have c50 : w6.cell? ⟨D, 50, none⟩ = some (.int .u64 18446744073709551615) := at_L HF6.out HR.out.1 HFL.out.1 6 HLL.out.1
  go_simp
  go_wp2
  go_ret
  exact ⟨rfl, B6.out⟩
end Go.Proofs.Ytfnbpmkbjbibkaa
