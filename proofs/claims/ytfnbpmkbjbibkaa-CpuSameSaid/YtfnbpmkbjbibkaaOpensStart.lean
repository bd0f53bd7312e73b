/- Arguments of the machine's statements, laid open: values of whole numbers and truths, rows of them, and what a machine begins with. -/
import Derived.Test.YtfnbpmkbjbibkaaOpensMix
import Derived.Test.YtfnbpmkbjbibkaaCpuAw
namespace Go.Proofs.Ytfnbpmkbjbibkaa
open Go Go.ChangeShapes Go.WideShapes Go.ChangeAt Go.RowKit Go.Deep Go.Proofs.YtfnbpmkbjbibkaaW.PrintWords
set_option linter.unusedVariables false
set_option linter.unusedSimpArgs false

def FitW : Option IntKind → Value → Prop
  | none, v => ∃ b, v = .bool b
  | some k, v => ∃ n, v = .int k n ∧ (Lit.int k n).wf = true
inductive FitsW : List (Option IntKind) → List Value → Prop
  | nil : FitsW [] []
  | cons {k : Option IntKind} {v : Value} {ks : List (Option IntKind)} {vs : List Value} : FitW k v → FitsW ks vs → FitsW (k :: ks) (v :: vs)
theorem FitsW.fits {ks : List (Option IntKind)} {vs : List Value} (h : FitsW ks vs) : Fits ks vs := by
  induction h with
  | nil => exact .nil
  | @cons k v ks vs a b ih =>
    refine .cons ?_ ih
    cases k with
    | none => exact a
    | some k => obtain ⟨n, h, _⟩ := a; exact ⟨n, h⟩
theorem FitsW.append {vs vs' : List Value} {ks ks' : List (Option IntKind)} (h : FitsW ks vs) : FitsW ks' vs' → FitsW (ks ++ ks') (vs ++ vs') := by
  induction h with
  | nil => intro h'; exact h'
  | cons a b ih => intro h'; exact .cons a (ih h')
section
variable {H : Type} {enc : TypeId × Value → H} {P : Program} {w : World} {base : Nat} {spare : Nat → Bool} {held : Bool}
theorem trod_fields {d : Nat} (ih : ∀ (t : TypeId) (ks : List (Option IntKind)) (cs : List Value) (fuel : Nat) (x : DataW H × List MemPlace), kindsOf P d t = some ks → DataW.trod enc P w base spare held fuel t cs = some x → FitsW ks cs) (cs : List Value) (n : Nat) :
    ∀ (fs : List Field) (o : Nat) (ks : List (Option IntKind)), fieldKinds P (kindsOf P d) fs o = some ks → cs.length = o + ks.length → (∀ f ∈ fs, ∃ y, DataW.trod enc P w base spare held n f.type ((cs.drop f.offset).take (P.cellsOf f.type)) = some y) → FitsW ks (cs.drop o)
  | [], o, ks, h, hl, hf => by
    obtain rfl := Option.some.inj h
    rw [List.drop_of_length_le (by simp at hl; omega)]
    exact .nil
  | f :: fs, o, ks, h, hl, hf => by
    unfold fieldKinds at h
    split at h
    · cases h
    · split at h
      · rename_i ho
        cases hk : kindsOf P d f.type with
        | none => simp [hk] at h
        | some k1 =>
          simp only [hk] at h
          cases hr : fieldKinds P (kindsOf P d) fs (o + k1.length) with
          | none => simp [hr] at h
          | some r =>
            simp only [hr, Option.some.injEq] at h
            subst h
            obtain ⟨y, hy⟩ := hf f (List.mem_cons_self ..)
            have h1 := ih f.type k1 _ n y hk hy
            have h2 := trod_fields ih cs n fs (o + k1.length) r hr (by simp at hl; omega) (fun f hf' => hf f (List.mem_cons_of_mem _ hf'))
            have hlen := h1.fits.len
            rw [ho] at h1 hlen
            have e : (cs.drop o).take (P.cellsOf f.type) = (cs.drop o).take k1.length := by
              simp only [List.length_take, List.length_drop] at hlen
              rcases Nat.lt_or_ge (P.cellsOf f.type) (cs.length - o) with hc | hc
              · rw [show P.cellsOf f.type = k1.length by omega]
              · rw [List.take_of_length_le (by simp; omega), List.take_of_length_le (by simp; omega)]
            rw [e] at h1
            rw [← List.take_append_drop k1.length (cs.drop o), List.drop_drop]
            exact h1.append h2
      · cases h
theorem trod_elems {d : Nat} (ih : ∀ (t : TypeId) (ks : List (Option IntKind)) (cs : List Value) (fuel : Nat) (x : DataW H × List MemPlace), kindsOf P d t = some ks → DataW.trod enc P w base spare held fuel t cs = some x → FitsW ks cs) (cs : List Value) (n : Nat) (e : TypeId) (ks : List (Option IntKind)) (hk : kindsOf P d e = some ks) (hc : P.cellsOf e = ks.length) (N : Nat) (hl : cs.length = N * ks.length)
    (hf : ∀ i, i < N → ∃ y, DataW.trod enc P w base spare held n e ((cs.drop (i * P.cellsOf e)).take (P.cellsOf e)) = some y) : ∀ (m i : Nat), i + m = N → FitsW (List.replicate m ks).flatten (cs.drop (i * ks.length))
  | 0, i, hi => by
    obtain rfl : i = N := by omega
    rw [List.drop_of_length_le (by omega)]
    exact .nil
  | m + 1, i, hi => by
    obtain ⟨y, hy⟩ := hf i (by omega)
    have h1 := ih e ks _ n y hk hy
    rw [hc] at h1
    have h2 := trod_elems ih cs n e ks hk hc N hl hf m (i + 1) (by omega)
    rw [List.replicate_succ, List.flatten_cons, ← List.take_append_drop ks.length (cs.drop (i * ks.length)), List.drop_drop, ← Nat.succ_mul]
    exact h1.append h2
theorem trod_flat : ∀ (d : Nat) (t : TypeId) (ks : List (Option IntKind)) (cs : List Value) (fuel : Nat) (x : DataW H × List MemPlace), kindsOf P d t = some ks → DataW.trod enc P w base spare held fuel t cs = some x → FitsW ks cs
  | 0, t, ks, cs, fuel, x, h, hx => by cases h
  | d + 1, t, ks, cs, fuel, x, h, hx => by
    have ih := trod_flat d
    unfold kindsOf at h
    split at h
    · rename_i hu
      obtain rfl := Option.some.inj h
      obtain ⟨b, rfl, _⟩ := DataW.trod_bool hu hx
      exact .cons ⟨b, rfl⟩ .nil
    · rename_i k hu
      obtain rfl := Option.some.inj h
      obtain ⟨n, rfl, _, hw⟩ := DataW.trod_int hu hx
      exact .cons ⟨n, rfl, hw⟩ .nil
    · rename_i fs hu
      split at h
      · cases h
      · split at h
        · cases h
        · rename_i ks' hf
          split at h
          · rename_i hs
            obtain rfl := Option.some.inj h
            obtain ⟨xs, n, _, _, hl, hxl, hg⟩ := DataW.trod_struct hu hx
            have hc : P.cellsOf t = ks'.length := by unfold Program.cellsOf; rw [hs]; rfl
            have := trod_fields ih cs n fs.toList 0 ks' hf (by rw [hl, hc]; omega) (fun f hf => by
              obtain ⟨i, hi, rfl⟩ := List.getElem_of_mem hf
              have h3 := hg i _ (Array.getElem?_eq_some_iff.2 ⟨by simpa using hi, rfl⟩)
              rw [List.getElem?_eq_getElem (by rw [hxl]; simpa using hi)] at h3
              exact ⟨_, h3⟩)
            simpa using this
          · cases h
    · rename_i N e hu
      split at h
      · cases h
      · rename_i ks' hk
        split at h
        · rename_i hs
          split at h
          · rename_i hs2
            obtain rfl := Option.some.inj h
            obtain ⟨xs, n, _, _, hl, hxl, hg⟩ := DataW.trod_array hu hx
            have hc : P.cellsOf e = ks'.length := by unfold Program.cellsOf; rw [hs]; rfl
            have hct : P.cellsOf t = N * ks'.length := by unfold Program.cellsOf; rw [hs2]; rfl
            have := trod_elems ih cs n e ks' hk hc N (by rw [hl, hct]) (fun i hi => by
              have h3 := hg i hi
              rw [List.getElem?_eq_getElem (by omega)] at h3
              exact ⟨_, h3⟩) N 0 (by omega)
            simpa using this
          · cases h
        · cases h
    · cases h
end
theorem fitsW_ints {k : IntKind} : ∀ {n : Nat} {vs : List Value}, FitsW (List.replicate n (some k)) vs → ∃ l : List Int, vs = l.map (Value.int k) ∧ l.length = n ∧ ∀ x ∈ l, (Lit.int k x).wf = true
  | 0, _, h => by
    cases h
    exact ⟨[], rfl, rfl, fun x hx => by cases hx⟩
  | n + 1, _, h => by
    rw [List.replicate_succ] at h
    cases h with
    | cons a b =>
      obtain ⟨x, rfl, hx⟩ := a
      obtain ⟨l, rfl, hl, hw⟩ := fitsW_ints b
      exact ⟨x :: l, rfl, by simp [hl], fun y hy => by
        rcases List.mem_cons.1 hy with rfl | hy
        · exact hx
        · exact hw y hy⟩
/-- The cells of a beginning. -/
def stC (n : Int) (vp vi : Value) (pc : Int) (rg fl : List Value) (o m : Int) (s : Bool) (tk rt : Int) : List Value := .int .i64 n :: vp :: vi :: .int .u32 pc :: (rg ++ (fl ++ [.int .u64 o, .int .u64 m, .bool s, .int .u64 tk, .int .u64 rt]))
/-- The nine cells of a file. -/
def fc0 (a b c d e f g h i : Int) : List Value := [.int .u32 a, .int .u32 b, .int .u32 c, .int .u32 d, .int .u32 e, .int .u32 f, .int .u32 g, .int .u64 h, .int .u64 i]
theorem seg {α : Type} (cs : List α) (o n : Nat) : cs.drop o = (cs.drop o).take n ++ cs.drop (o + n) := by
  rw [← List.drop_drop, List.take_append_drop]
structure StartOk (w : World) (n : Int) (A : Option Addr) (len cap : Nat) (f : Nat → Nat → Int) (pp : Nat → Option Addr) (nn c : Nat → Nat) (bb : Nat → List Int) (Ai : Option Addr) (leni capi : Nat) (fi : Nat → Nat → Int) (pc : Int) (rs ks : List Int) (cy cn o m tk rt : Int) : Prop where
  mix : IsMix [.u32] w A len cap f pp nn c bb
  inp : IsRows [.u64, .u8] w Ai leni capi fi
  rl : rs.length = 32
  kl : ks.length = 7
  wn : (Lit.int .i64 n).wf = true
  wp : (Lit.int .u32 pc).wf = true
  wr : ∀ x ∈ rs, (Lit.int .u32 x).wf = true
  wk : ∀ x ∈ ks, (Lit.int .u32 x).wf = true
  w1 : (Lit.int .u64 cy).wf = true
  w2 : (Lit.int .u64 cn).wf = true
  w3 : (Lit.int .u64 o).wf = true
  w4 : (Lit.int .u64 m).wf = true
  w5 : (Lit.int .u64 tk).wf = true
  w6 : (Lit.int .u64 rt).wf = true
section
variable {H : Type} {enc : TypeId × Value → H} {w : World} {base : Nat} {held : Bool} {r : Reach} {b0 : Nat} {v : Value} {d : DataW H} {p : List MemPlace}
theorem slice_form {P : Program} {t e : TypeId} {fuel : Nat} {cs : List Value} {x : DataW H × List MemPlace} (ht : P.underlying t = some (.slice e)) (h : DataW.trod enc P w base (fun _ => true) held fuel t cs = some x) : ∃ A len cap, cs = [.slice A len cap] := by
  rcases DataW.trod_slice ht h with ⟨rfl, _⟩ | ⟨a, len, cap, _, _, _, _, rfl, _⟩
  · exact ⟨none, 0, 0, rfl⟩
  · exact ⟨some a, len, cap, rfl⟩
set_option maxRecDepth 100000 in
theorem open_start (hv : Value.okWide Try.prog w r b0 32 v) (h : DataW.Trod enc Try.prog w base (fun _ => true) held 32 v d p) :
    ∃ n A len cap f pp nn c bb Ai leni capi fi pc rs ks cy cn o m s tk rt, v = .agg (stC n (.slice A len cap) (.slice Ai leni capi) pc (rs.map (Value.int .u32)) (ks.map (Value.int .u32) ++ [.int .u64 cy, .int .u64 cn]) o m s tk rt).toArray ∧ StartOk w n A len cap f pp nn c bb Ai leni capi fi pc rs ks cy cn o m tk rt := by
  obtain ⟨cs, rfl, hsz⟩ := okWide_struct Try.underlying32 hv
  obtain ⟨fuel, hf⟩ := h
  obtain ⟨xs, m0, _, _, hl, hxl, hg⟩ := DataW.trod_struct Try.underlying32 hf
  have hl50 : cs.toList.length = 50 := (show cs.toList.length = _ from hl).trans (by kernel_rfl)
  have hxl : xs.length = 11 := hxl
  have key : ∀ (i : Nat) (t off c : Nat), ((match Try.prog.underlying 32 with | some (.struct fs) => fs[i]? | _ => none).map fun (f : Field) => (f.type, f.offset)) = some (t, off) → Try.prog.cellsOf t = c → i < 11 → ∃ y, DataW.trod enc Try.prog w base (fun _ => true) held m0 t ((cs.toList.drop off).take c) = some y := fun i t off c h1 h2 h3 => by
    rw [Try.underlying32] at h1
    obtain ⟨f, hf, he⟩ := Option.map_eq_some_iff.1 h1
    injection he with he1 he2
    have := hg i f hf
    rw [he1, he2, h2, List.getElem?_eq_getElem (by omega)] at this
    exact ⟨_, this⟩
  obtain ⟨y0, g0⟩ := key 0 3 0 1 (by kernel_rfl) (by kernel_rfl) (by omega)
  obtain ⟨y1, g1⟩ := key 1 22 1 1 (by kernel_rfl) (by kernel_rfl) (by omega)
  obtain ⟨y2, g2⟩ := key 2 23 2 1 (by kernel_rfl) (by kernel_rfl) (by omega)
  obtain ⟨y3, g3⟩ := key 3 24 3 1 (by kernel_rfl) (by kernel_rfl) (by omega)
  obtain ⟨y4, g4⟩ := key 4 25 4 32 (by kernel_rfl) (by kernel_rfl) (by omega)
  obtain ⟨y5, g5⟩ := key 5 27 36 7 (by kernel_rfl) (by kernel_rfl) (by omega)
  obtain ⟨y6, g6⟩ := key 6 28 43 1 (by kernel_rfl) (by kernel_rfl) (by omega)
  obtain ⟨y7, g7⟩ := key 7 28 44 1 (by kernel_rfl) (by kernel_rfl) (by omega)
  obtain ⟨y8, g8⟩ := key 8 30 45 3 (by kernel_rfl) (by kernel_rfl) (by omega)
  obtain ⟨y9, g9⟩ := key 9 28 48 1 (by kernel_rfl) (by kernel_rfl) (by omega)
  obtain ⟨y10, g10⟩ := key 10 28 49 1 (by kernel_rfl) (by kernel_rfl) (by omega)
  have e : cs.toList = cs.toList.take 1 ++ ((cs.toList.drop 1).take 1 ++ ((cs.toList.drop 2).take 1 ++ ((cs.toList.drop 3).take 1 ++ ((cs.toList.drop 4).take 32 ++ ((cs.toList.drop 36).take 7 ++ ((cs.toList.drop 43).take 1 ++ ((cs.toList.drop 44).take 1 ++ ((cs.toList.drop 45).take 3 ++ ((cs.toList.drop 48).take 1 ++ (cs.toList.drop 49).take 1))))))))) := by
    have z := seg cs.toList 0 1
    rw [List.drop_zero] at z
    rw [← (show cs.toList.drop 49 = (cs.toList.drop 49).take 1 from (List.take_of_length_le (by rw [List.length_drop, hl50]; omega)).symm), ← seg cs.toList 48 1, ← seg cs.toList 45 3, ← seg cs.toList 44 1, ← seg cs.toList 43 1, ← seg cs.toList 36 7, ← seg cs.toList 4 32, ← seg cs.toList 3 1, ← seg cs.toList 2 1, ← seg cs.toList 1 1]
    exact z
  rw [List.drop_zero] at g0
  obtain ⟨n, e0, _, wn⟩ := DataW.trod_int (by kernel_rfl : Try.prog.underlying _ = some (.int .i64)) g0
  obtain ⟨A, len, cap, e1⟩ := slice_form Try.underlying22 g1
  obtain ⟨Ai, leni, capi, e2⟩ := slice_form Try.underlying23 g2
  obtain ⟨pc, e3, _, wp⟩ := DataW.trod_int (by kernel_rfl : Try.prog.underlying _ = some (.int .u32)) g3
  obtain ⟨rs, e4, rl, wr⟩ := fitsW_ints (trod_flat 20 _ _ _ _ _ (by kernel_rfl : kindsOf Try.prog 20 25 = some (List.replicate 32 (some .u32))) g4)
  obtain ⟨ks, e5, kl, wk⟩ := fitsW_ints (trod_flat 20 _ _ _ _ _ (by kernel_rfl : kindsOf Try.prog 20 27 = some (List.replicate 7 (some .u32))) g5)
  obtain ⟨cy, e6, _, w1⟩ := DataW.trod_int (by kernel_rfl : Try.prog.underlying _ = some (.int .u64)) g6
  obtain ⟨cn, e7, _, w2⟩ := DataW.trod_int (by kernel_rfl : Try.prog.underlying _ = some (.int .u64)) g7
  obtain ⟨o, m, s, e8, w3, w4⟩ : ∃ o m s, (cs.toList.drop 45).take 3 = [.int .u64 o, .int .u64 m, .bool s] ∧ (Lit.int .u64 o).wf = true ∧ (Lit.int .u64 m).wf = true := by
    have := trod_flat 20 _ _ _ _ _ (by kernel_rfl : kindsOf Try.prog 20 30 = some [some .u64, some .u64, none]) g8
    generalize (cs.toList.drop 45).take 3 = t at this
    cases this with | cons a b =>
    cases b with | cons c d =>
    cases d with | cons f g =>
    cases g
    obtain ⟨o, rfl, w3⟩ := a
    obtain ⟨m, rfl, w4⟩ := c
    obtain ⟨s, rfl⟩ := f
    exact ⟨o, m, s, rfl, w3, w4⟩
  obtain ⟨tk, e9, _, w5⟩ := DataW.trod_int (by kernel_rfl : Try.prog.underlying _ = some (.int .u64)) g9
  obtain ⟨rt, e10, _, w6⟩ := DataW.trod_int (by kernel_rfl : Try.prog.underlying _ = some (.int .u64)) g10
  rw [e1] at g1
  rw [e2] at g2
  obtain ⟨f, pp, nn, c, bb, hm⟩ := open_mix (tb := 0) [.u32] Try.underlying22 Try.underlying51 (by kernel_rfl) (by kernel_rfl) (by kernel_rfl) rfl rfl Try.underlying40 Try.underlying5 (by kernel_rfl) g1
  obtain ⟨fi, hi⟩ := open_rows [.u64, .u8] Try.underlying23 Try.underlying145 (by kernel_rfl) (by kernel_rfl) (by kernel_rfl) rfl g2
  refine ⟨n, A, len, cap, f, pp, nn, c, bb, Ai, leni, capi, fi, pc, rs, ks, cy, cn, o, m, s, tk, rt, ?_, ⟨hm, hi, rl, kl, wn, wp, wr, wk, w1, w2, w3, w4, w5, w6⟩⟩
  congr 1
  apply Array.toList_inj.1
  rw [e, e0, e1, e2, e3, e4, e5, e6, e7, e8, e9, e10]
  simp [stC]
set_option maxRecDepth 100000 in
theorem open_evs {fuel : Nat} {A : Option Addr} {len cap : Nat} {x : DataW H × List MemPlace} (h : DataW.trod enc Try.prog w base (fun _ => true) held fuel 33 [.slice A len cap] = some x) :
    ∃ evs : List (List Value), evs.length = len ∧ ES w A evs ∧ len ≤ cap ∧ cap ≤ maxLen ∧ (A = none → len = 0 ∧ cap = 0) := by
  rcases open_slice Try.underlying33 h with ⟨hcs, _⟩ | ⟨a, l, c, m, n, D, Pl, hcs, hb, hl, hm, hmm, _, hi⟩
  · simp at hcs
    obtain ⟨rfl, rfl, rfl⟩ := hcs
    exact ⟨[], rfl, ES.nil _ _, Nat.le_refl _, by decide, fun _ => ⟨rfl, rfl⟩⟩
  · simp at hcs
    obtain ⟨rfl, rfl, rfl⟩ := hcs
    simp only [if_true] at hmm
    subst hmm
    have hc : Try.prog.cellsOf 46 = 45 := by kernel_rfl
    have hex : ∀ i, ∃ e : List Value, i < len → Fits kE e ∧ ∀ j v, e[j]? = some v → w.cell? (a.add (i * 45 + j)) = some v := by
      intro i
      by_cases him : i < len
      · obtain ⟨cs', h1, h2⟩ := hi i (by omega)
        rw [hc] at h1
        obtain ⟨_, hcl, hat⟩ := World.cells?_some h1
        refine ⟨cs', fun _ => ⟨(trod_flat 20 _ _ _ _ _ kE_of h2).fits, fun j v hj => ?_⟩⟩
        have hj' := (List.getElem?_eq_some_iff.1 hj).1
        rw [← Go.Deep.add_add, hat j (by omega), hj]
      · exact ⟨[], fun h => absurd h him⟩
    refine ⟨(List.range len).map fun i => Classical.choose (hex i), by simp, fun i e he => ?_, hl, hm, fun h => by cases h⟩
    have hil : i < len := by have := (List.getElem?_eq_some_iff.1 he).1; simpa using this
    have he' : e = Classical.choose (hex i) := by rw [List.getElem?_map, List.getElem?_range hil] at he; exact (Option.some.inj he).symm
    obtain ⟨h1, h2⟩ := Classical.choose_spec (hex i) hil
    rw [he']
    exact ⟨h1, a, rfl, h2⟩
end
end Go.Proofs.Ytfnbpmkbjbibkaa
