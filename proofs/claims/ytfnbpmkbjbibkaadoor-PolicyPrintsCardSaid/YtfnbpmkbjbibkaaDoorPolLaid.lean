/- The words' table and the library's variable out of the row's condition and the world's shape; a start that meets the condition. -/
import Derived.Test.YtfnbpmkbjbibkaaDoorRows
import Derived.Test.YtfnbpmkbjbibkaaDoorPol
import Derived.ProofKit
import Derived.LaidMore
import Derived.OpenShut
import Derived.Lay
import Derived.HandedShaped
import Derived.Stop.Joined
namespace Go.Proofs.YtfnbpmkbjbibkaaDoor
open Go Go.ChangeShapes Go.WideShapes Go.ChangeAt Go.RowKit

/-- The plain wrap, with a condition on the world and its shape kept for the contract. -/
theorem handed_and_shaped {H : Type} {enc : TypeId × Value → H} {a : Assume} {C : Checked} {os : Os} {f : FuncId} {fn : Func} {s : ChangeSpec} {conds : List PathCond} {apart fresh handsOn again : Bool} {X : World → Array Value → Prop}
    (hX : ∀ (w w' : World) (args : Array Value), w.heap = w'.heap → X w args → X w' args)
    (own : ownKnob C.prog.godebug = none) (started : os.Started) (noInit : C.prog.inits.idxOf? f = none) (hfn : C.prog.funcs[f]? = some fn)
    (witness : ∃ (w : World) (tape : Tape) (i : Input), w.os = os ∧ (w.forCall tape i).Shaped C.prog ∧ i.vars = [] ∧ Input.okWide C.prog (w.forCall tape i) .any w.heap.size f i ∧
      ((s.pre enc C.prog fn conds apart (w.forCall tape i).memory i.args ∧ X (w.forCall tape i).memory i.args) ∧ sizedMet enc C.prog fn (OpenSpec.ofChange s) apart (w.forCall tape i).memory i.args) ∧ a.holds C.prog (lone (Frame.enter C.prog f i.args .normal) [] (w.forCall tape i)))
    (contract : ∀ (W : World) (base : Nat) (args : Array Value) (ds gs : List (DataW H)) (before : List MemPlace),
      (∀ (j : Nat) t v, fn.params[j]? = some t → args[j]? = some v → Value.okWide C.prog W .any base t v) →
      DataW.Whole enc C.prog fn.params.toList s.vars apart W args.toList ds gs before → W.ShapedOpen C.prog → X W args →
      Calls C.prog f args W fun e W' => ∃ v, e = .returned v ∧ s.post enc C.prog fn apart fresh handsOn again W args v W') :
    ReturnsInHanded a C os f .any (fun w args => (s.pre enc C.prog fn conds apart w args ∧ X w args) ∧ sizedMet enc C.prog fn (OpenSpec.ofChange s) apart w args) (s.post enc C.prog fn apart fresh handsOn again) := by
  refine returnsInHanded_of_calls own started noInit witness ?_
  intro w tape i _ hsh _ hok hpre hholds
  obtain ⟨_, _, _, fn', hfn', _, _, _, _, hval⟩ := hok
  have e : fn' = fn := Option.some.inj (hfn'.symm.trans hfn)
  subst e
  obtain ⟨⟨⟨ds, gs, before, hw, hc⟩, hx⟩, hz⟩ := hpre
  refine (contract (w.forCall tape i) w.heap.size i.args ds gs before hval (DataW.Whole.of_heap (w' := w.forCall tape i) (by rfl) hw) hsh (hX _ _ _ (by rfl) hx)).mono fun e W' ⟨v, he, hp⟩ => ?_
  subst he
  exact ChangeSpec.post_blind hp

abbrev laidPol : List (String × DataW Unit) := [("unicode/utf8.acceptRanges", Rows.laid_unicode_utf8_acceptRanges), ("mimesis/policy.words", Rows.laid_mimesis_policy_words), ("unicode/utf8.first", Rows.laid_unicode_utf8_first)]
theorem gWords : Tryd.prog.globalNamed "mimesis/policy.words" = some 0 := by kernel_rfl
theorem tWords : (Tryd.prog.globals[0]?).map (·.type) = some 109 := by kernel_rfl
theorem c_str : Tryd.prog.cellsOf 9 = 1 := by kernel_rfl
set_option maxRecDepth 100000 in
theorem words_of_laid {W : World} (h : laidMetH Tryd.prog laidPol W) (hsh : W.ShapedOpen Tryd.prog) : Words W := by
  refine ⟨?_, Tryd.laysM146.s1_3 W hsh⟩
  rw [MakeChecks.laidMetH_plain _ _ _ (by kernel_rfl)] at h
  obtain ⟨ps, ⟨_, _, _, _, _, _, _, _, _, _, ⟨g1, t1, cs1, f1, p1, q1, hg1, ht1, hv1, hd1, _, _⟩, _⟩, _, _⟩ := h
  obtain rfl := Option.some.inj (gWords.symm.trans hg1)
  obtain rfl := Option.some.inj (tWords.symm.trans ht1)
  obtain ⟨xs, m1, rfl, hx1, hlen, hn, hel⟩ := DataW.trod_array Tryd.underlying109 hd1
  rw [c_str] at hel
  have hc : ∀ i, W.cell? ⟨0, i, none⟩ = cs1[i]? := fun i => World.var?_cell hg1 hv1 i
  have hx2 : xs.map (·.1) = pwords.map (fun l => DataW.lit (.string l)) := by
    simp only [Prod.mk.injEq, DataW.agg.injEq, Rows.laid_mimesis_policy_words] at hx1
    exact hx1.1.symm
  intro i s hs
  have hi : i < 10 := (List.getElem?_eq_some_iff.1 hs).1
  have h1 := hel i hi
  have h2 : (xs.map (·.1))[i]? = some (DataW.lit (.string s)) := by rw [hx2, List.getElem?_map, hs]; rfl
  rw [List.getElem?_map] at h2
  obtain ⟨x, hx, hxe⟩ := Option.map_eq_some_iff.1 h2
  rw [hx] at h1
  obtain ⟨s', e1, e2, _⟩ := DataW.trod_string Tryd.underlying9 h1
  rw [hc i]
  rw [e2] at hxe
  have hs' : s'.data.toList = s := by simpa using hxe
  have hse : s' = ⟨s.toArray⟩ := by
    cases s' with
    | mk d => simp only at hs'; rw [← hs']
  have h0 : ((cs1.toList.drop (i * 1)).take 1)[0]? = some (.string s') := by rw [e1]; rfl
  rw [← hse]
  simpa using h0
end Go.Proofs.YtfnbpmkbjbibkaaDoor
