/-
  The law BusPlaysCardSaid is true of every input and leaves its arguments as they read: the frame round the walk, no condition.
-/
import Derived.Test.YtdalboofhckobaaDoorRows
import Derived.WalkKit
import Derived.ProofKit
import Derived.OpenShut
import Derived.ShutString
import Derived.ChangeOld
import Derived.Below
import Derived.Test.YtdalboofhckobaaDoorOpens
import Derived.Test.YtdalboofhckobaaDoorOpensRows
import Derived.Test.YtdalboofhckobaaDoorBusPlays
import Derived.Test.YtdalboofhckobaaDoorBusLaid
import Derived.LaidMore
import Derived.Stop.Joined
import Derived.Test.YtdalboofhckobaaDoorTie
import Derived.Test.YtdalboofhckobaaDoorCards
import Derived.SevenTiedAt
namespace Go.Proofs.YtdalboofhckobaaDoor.LawBusPlays
open Go Go.ChangeShapes Go.WideShapes Go.ChangeAt Go.RowKit Go.Joins Go.Proofs.YtdalboofhckobaaDoor
open Go.ChangeMaps (open_string shut_string)
set_option linter.unusedVariables false
theorem own : ownKnob Tryd.prog.godebug = none := by kernel_rfl
theorem laidOut : laidOutB Tryd.prog = true := by kernel_rfl
set_option maxRecDepth 100000 in
theorem lifted (os : Os) (started : os.Started) (H : Type) (enc : TypeId × Value → H) :
    ReturnsInHanded {} Tryd.checked os 6 .any (fun w args => (Rows.busPlaysSpec.pre enc Tryd.prog Tryd.f6 [] false w args ∧ laidMetH Tryd.prog laidPorts w) ∧ sizedMet enc Tryd.prog Tryd.f6 (OpenSpec.ofChange Rows.busPlaysSpec) false w args) (Rows.busPlaysSpec.post enc Tryd.prog Tryd.f6 false true false false) := by
  refine returnsInHanded_of_change_and (C := Tryd.checked) (X := fun w _ => laidMetH Tryd.prog laidPorts w) (fun _ _ _ hh h => h.of_heap hh) own started (by kernel_rfl) Tryd.func6
    (ChangeSpec.witness_shaped (enc := enc) (C := Tryd.checked) (os := os) (X := fun w _ => laidMetH Tryd.prog laidPorts w) false (World.doorLaid Tryd.prog 400 os) #[.int .i64 0, .slice none 0 0, .slice none 0 0] 8 rfl (World.shaped_of_RefB (by kernel_rfl) (by kernel_rfl)) (by kernel_rfl) (by kernel_rfl) (by kernel_rfl) (door_met os _)) ?_
  intro W base args ds gs before hval0 hW _ _ hL _
  have hval : ∀ (j : Nat) t v, Tryd.f6.params[j]? = some t → args[j]? = some v → Value.okWide Tryd.prog W .any base t v := hval0
  have hW' := hW
  obtain ⟨p, q, hA0, hV, rfl, hfz, hnd⟩ := hW
  have hA : DataW.TrodAll enc Tryd.prog W 0 (fun _ => true) true Tryd.f6.params.toList args.toList ds p := hA0
  rw [Tryd.params6] at hA hval
  obtain ⟨v0, vs0, d0, ds0, p0, q0, hargs, rfl, rfl, h0, r0⟩ := trodAll_cons hA
  obtain ⟨v1, vs1, d1, ds1, p1, q1, rfl, rfl, rfl, h1, r1⟩ := trodAll_cons r0
  obtain ⟨v2, vs2, d2, ds2, p2, q2, rfl, rfl, rfl, h2, r2⟩ := trodAll_cons r1
  obtain ⟨rfl, rfl, rfl⟩ := trodAll_nil r2
  obtain rfl : args = #[v0, v1, v2] := by cases args; simp_all
  obtain ⟨rfl, rfl⟩ := trodVars_none hV
  have k0 := h0
  have lt0 : ∀ x ∈ p0, x.block < W.heap.size := by obtain ⟨m, hm⟩ := k0; exact DataW.trod_lt m _ _ _ hm
  obtain ⟨a0, rfl, w0⟩ : ∃ a, v0 = .int .i64 a ∧ (Lit.int .i64 a).wf = true := by obtain ⟨a, e, _, _, w⟩ := open_int Tryd.underlying3 (hval 0 3 v0 rfl rfl) h0; exact ⟨a, e, w⟩
  have k1 := h1
  have lt1 : ∀ x ∈ p1, x.block < W.heap.size := by obtain ⟨m, hm⟩ := k1; exact DataW.trod_lt m _ _ _ hm
  obtain ⟨a1, len1, cap1, rfl⟩ := okWide_slice Tryd.underlying56 (hval 1 56 v1 rfl rfl)
  obtain ⟨z1, w1⟩ : ∃ f, IsRows [.u64, .u8] W a1 len1 cap1 f := by
    obtain ⟨fuel, hf⟩ := h1
    exact open_rows _ Tryd.underlying56 Tryd.underlying90 (by kernel_rfl) (by kernel_rfl) (by kernel_rfl) rfl hf
  have k2 := h2
  have lt2 : ∀ x ∈ p2, x.block < W.heap.size := by obtain ⟨m, hm⟩ := k2; exact DataW.trod_lt m _ _ _ hm
  obtain ⟨a2, len2, cap2, rfl⟩ := okWide_slice Tryd.underlying57 (hval 2 57 v2 rfl rfl)
  obtain ⟨z2, w2⟩ : ∃ f, IsRows [.i64, .u32, .i64, .u32, .u64] W a2 len2 cap2 f := by
    obtain ⟨fuel, hf⟩ := h2
    exact open_rows _ Tryd.underlying57 Tryd.underlying69 (by kernel_rfl) (by kernel_rfl) (by kernel_rfl) rfl hf
  clear hA0 hval0
  refine (bus_plays a0 a1 len1 cap1 z1 a2 len2 cap2 z2 W w0 w1 w2 (ports_of_laid hL)).mono fun e W' ⟨he, bel⟩ => ?_
  subst he
  exact ⟨_, rfl, _, _, _, [], _, [], hW', trodAll_mk1 (shut_bool Tryd.underlying4 _), (trodAll_cons_mk (Below.trod laidOut (by kernel_rfl) (of_decide_eq_true (by kernel_rfl)) k0 bel lt0) (trodAll_cons_mk (Below.trod laidOut (by kernel_rfl) (of_decide_eq_true (by kernel_rfl)) k1 bel lt1) (trodAll_cons_mk (Below.trod laidOut (by kernel_rfl) (of_decide_eq_true (by kernel_rfl)) k2 bel lt2) trodAll_mk0))), rfl, bel.frame _, fun h => by cases h⟩

theorem over : Rows.busPlaysRow.holds Tryd.pinned (OpenSpec.ofChange Rows.busPlaysSpec) :=
  OpenClaim.holds_of_wide 6 Tryd.f6 rfl rfl rfl rfl rfl rfl rfl ⟨rfl, rfl, rfl, rfl, rfl⟩ rfl rfl rfl rfl rfl (by kernel_rfl) Tryd.func6 (by kernel_rfl)
    (of_decide_eq_true (by kernel_rfl)) (by unfold Func.isWrapper; first | (rw [if_pos (by decide +kernel)]; kernel_rfl) | (rw [if_neg (by decide +kernel)]; exact ⟨rfl, rfl⟩))
    (fun os started H enc _ => lifted os started H enc)
end Go.Proofs.YtdalboofhckobaaDoor.LawBusPlays
namespace Go.Proofs.YtdalboofhckobaaDoor
theorem busPlays_holds : Rows.BusPlaysCardSaid :=
  Claim7.holds_tied_plain_at .later [] [.data] true (true, "2b20881b2a8946b3faa3ed7e929b9dee6536feefe6f503b165f01c4becbe4416") false LawBusPlays.over (fun _ h => by cases h) (by kernel_rfl) (fun _ h => by cases h) busPlays_row_tie rfl ⟨rfl, rfl⟩ (by kernel_rfl) rfl
    (fun f fn hf hfn => by
      obtain rfl : f = 6 := Option.some.inj ((show Tryd.prog.funcNamed Tryd.f6.name = some 6 by kernel_rfl).symm.trans hf) |>.symm
      obtain rfl : fn = Tryd.f6 := (Option.some.inj (Tryd.func6.symm.trans hfn)).symm
      exact ⟨by kernel_rfl, fun j t ht => by
        rw [Tryd.params6] at ht
        have h : t = 3 ∨ t = 56 ∨ t = 57 := by
          rcases j with _ | _ | _ | j
          all_goals first | (simp at ht; subst ht; simp; done) | (simp at ht; done)
        rcases h with rfl | rfl | rfl
        · exact (show Tryd.prog.wantsStandIn 3 = false by kernel_rfl)
        · exact (show Tryd.prog.wantsStandIn 56 = false by kernel_rfl)
        · exact (show Tryd.prog.wantsStandIn 57 = false by kernel_rfl)
        ⟩) (by kernel_rfl)
#print axioms busPlays_holds
end Go.Proofs.YtdalboofhckobaaDoor
