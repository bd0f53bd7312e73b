/-
  The law PolicyPrintsCardSaid is true of every input and leaves its arguments as they read: the frame round the walk, no condition.
-/
import Derived.Test.YtfnbpmkbjbibkaaDoorRows
import Derived.WalkKit
import Derived.ProofKit
import Derived.OpenShut
import Derived.ShutString
import Derived.ChangeOld
import Derived.Below
import Derived.Test.YtfnbpmkbjbibkaaDoorOpens
import Derived.Test.YtfnbpmkbjbibkaaDoorOpensRows
import Derived.Test.YtfnbpmkbjbibkaaDoorPolPrints
import Derived.Test.YtfnbpmkbjbibkaaDoorPolLaid
import Derived.LaidMore
import Derived.Stop.Joined
import Derived.Test.YtfnbpmkbjbibkaaDoorTie
import Derived.Test.YtfnbpmkbjbibkaaDoorCards
import Derived.SevenTiedAt
namespace Go.Proofs.YtfnbpmkbjbibkaaDoor.LawPolicyPrints
open Go Go.ChangeShapes Go.WideShapes Go.ChangeAt Go.RowKit Go.Joins Go.Proofs.YtfnbpmkbjbibkaaDoor
open Go.ChangeMaps (open_string shut_string)
set_option linter.unusedVariables false
theorem own : ownKnob Tryd.prog.godebug = none := by kernel_rfl
theorem laidOut : laidOutB Tryd.prog = true := by kernel_rfl
set_option maxRecDepth 100000 in
theorem lifted (os : Os) (started : os.Started) (H : Type) (enc : TypeId × Value → H) :
    ReturnsInHanded {} Tryd.checked os 10 .any (fun w args => (Rows.policyPrintsSpec.pre enc Tryd.prog Tryd.f10 [] false w args ∧ laidMetH Tryd.prog laidPol w) ∧ sizedMet enc Tryd.prog Tryd.f10 (OpenSpec.ofChange Rows.policyPrintsSpec) false w args) (Rows.policyPrintsSpec.post enc Tryd.prog Tryd.f10 false true false false) := by
  refine handed_and_shaped (C := Tryd.checked) (X := fun w _ => laidMetH Tryd.prog laidPol w) (fun _ _ _ hh h => h.of_heap hh) own started (by kernel_rfl) Tryd.func10
    (ChangeSpec.witness_shaped (enc := enc) (C := Tryd.checked) (os := os) (X := fun w _ => laidMetH Tryd.prog laidPol w) false (World.laidAll Tryd.prog os laidPol) #[.slice none 0 0] 8 (World.laidAll_os _ _ _) (World.shaped_of_ZipB (by kernel_rfl) (by kernel_rfl)) (by kernel_rfl) (by kernel_rfl) (by kernel_rfl)
      (by rw [MakeChecks.laidMetH_plain _ _ _ (by kernel_rfl)]; exact laidMet_laidAll _ (by kernel_rfl) (by kernel_rfl))) ?_
  intro W base args ds gs before hval0 hW hsh hL
  have hval : ∀ (j : Nat) t v, Tryd.f10.params[j]? = some t → args[j]? = some v → Value.okWide Tryd.prog W .any base t v := hval0
  have hW' := hW
  obtain ⟨p, q, hA0, hV, rfl, hfz, hnd⟩ := hW
  have hA : DataW.TrodAll enc Tryd.prog W 0 (fun _ => true) true Tryd.f10.params.toList args.toList ds p := hA0
  rw [Tryd.params10] at hA hval
  obtain ⟨v0, vs0, d0, ds0, p0, q0, hargs, rfl, rfl, h0, r0⟩ := trodAll_cons hA
  obtain ⟨rfl, rfl, rfl⟩ := trodAll_nil r0
  obtain rfl : args = #[v0] := by cases args; simp_all
  obtain ⟨rfl, rfl⟩ := trodVars_none hV
  have k0 := h0
  have lt0 : ∀ x ∈ p0, x.block < W.heap.size := by obtain ⟨m, hm⟩ := k0; exact DataW.trod_lt m _ _ _ hm
  obtain ⟨a0, len0, cap0, rfl⟩ := okWide_slice Tryd.underlying57 (hval 0 57 v0 rfl rfl)
  obtain ⟨z0, w0⟩ : ∃ f, IsRows [.i64, .i64] W a0 len0 cap0 f := by
    obtain ⟨fuel, hf⟩ := h0
    exact open_rows _ Tryd.underlying57 Tryd.underlying66 (by kernel_rfl) (by kernel_rfl) (by kernel_rfl) rfl hf
  clear hA0 hval0
  refine (pol_prints a0 len0 cap0 z0 W w0 (words_of_laid hL hsh)).mono fun e W' ⟨he, bel⟩ => ?_
  subst he
  exact ⟨_, rfl, _, _, _, [], _, [], hW', trodAll_mk1 (shut_bool Tryd.underlying4 _), (trodAll_cons_mk (Below.trod laidOut (by kernel_rfl) (of_decide_eq_true (by kernel_rfl)) k0 bel lt0) trodAll_mk0), rfl, bel.frame _, fun h => by cases h⟩

theorem over : Rows.policyPrintsRow.holds Tryd.pinned (OpenSpec.ofChange Rows.policyPrintsSpec) :=
  OpenClaim.holds_of_wide 10 Tryd.f10 rfl rfl rfl rfl rfl rfl rfl ⟨rfl, rfl, rfl, rfl, rfl⟩ rfl rfl rfl rfl rfl (by kernel_rfl) Tryd.func10 (by kernel_rfl)
    (of_decide_eq_true (by kernel_rfl)) (by unfold Func.isWrapper; first | (rw [if_pos (by decide +kernel)]; kernel_rfl) | (rw [if_neg (by decide +kernel)]; exact ⟨rfl, rfl⟩))
    (fun os started H enc _ => lifted os started H enc)
end Go.Proofs.YtfnbpmkbjbibkaaDoor.LawPolicyPrints
namespace Go.Proofs.YtfnbpmkbjbibkaaDoor
theorem policyPrints_holds : Rows.PolicyPrintsCardSaid :=
  Claim7.holds_tied_plain_at .later [] [.data, .data, .pinned] true (true, "c1ff958bc02c3f44ea5b62116ed77d5206f68126dc19f2a095c80df28bfdf8a7") false LawPolicyPrints.over (fun _ h => by cases h) (by kernel_rfl) (fun _ h => by cases h) policyPrints_row_tie rfl ⟨rfl, rfl⟩ (by kernel_rfl) rfl
    (fun f fn hf hfn => by
      obtain rfl : f = 10 := Option.some.inj ((show Tryd.prog.funcNamed Tryd.f10.name = some 10 by kernel_rfl).symm.trans hf) |>.symm
      obtain rfl : fn = Tryd.f10 := (Option.some.inj (Tryd.func10.symm.trans hfn)).symm
      exact ⟨by kernel_rfl, fun j t ht => by
        rw [Tryd.params10] at ht
        have h : t = 57 := by
          rcases j with _ | j
          all_goals first | (simp at ht; subst ht; simp; done) | (simp at ht; done)
        rcases h with rfl
        · exact (show Tryd.prog.wantsStandIn 57 = false by kernel_rfl)
        ⟩) (by kernel_rfl)
#print axioms policyPrints_holds
end Go.Proofs.YtfnbpmkbjbibkaaDoor
