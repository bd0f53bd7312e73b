/- TimerSkips in plain numbers: any timer behind a skip at any tick. -/
import Derived.Test.YtdcgnmekfkjlhaaWalkTimerSkips
import Derived.Test.YtdcgnmekfkjlhaaTimerPure
namespace Go.Proofs.Ytdcgnmekfkjlhaa.TPTimerSkips
open Go Go.RowKit Go.Proofs.Ytdcgnmekfkjlhaa Go.Proofs.Ytdcgnmekfkjlhaa.PTimerSkips Go.Proofs.YtdcgnmekfkjlhaaW.PrintWords
set_option linter.unusedVariables false

theorem ref_up (o m t : Int) (s : Bool) : mimesisref13_Up.f o m s t = some (tup t o m) := by
  unfold mimesisref13_Up.f mimesisref13_Now.f
  rw [Option.bind_some]; rfl
theorem ref_skip (o m t : Int) (s : Bool) : mimesisref13_Skip.f o m s t = some (tskip t o m, m, s) := by
  unfold mimesisref13_Skip.f
  rw [ref_up, Option.bind_some]
  unfold tskip
  split <;> rfl

theorem timer_skips (o m : Int) (s : Bool) (t : Int) (W : World) (u0 : (Lit.int .u64 o).wf = true) (u1 : (Lit.int .u64 m).wf = true) (w1 : (Lit.int .u64 t).wf = true) :
    Calls Try.prog 3 #[.agg #[.int .u64 o, .int .u64 m, .bool s], .int .u64 t] W fun e w' => e = .returned (.bool true) ∧ Below W.heap.size W w' := by
  obtain ⟨o0, o1⟩ := wf_u64 u0
  obtain ⟨m0, m1⟩ := wf_u64 u1
  obtain ⟨t0, t1⟩ := wf_u64 w1
  have hr := ref_up o m t s
  have hs := ref_skip o m t s
  have hk2 : tup t (tskip t o m) m = true := by
    rw [tup_iff, tskip_num]
    split
    · rw [decide_eq_true (by omega)]
    · rw [decide_eq_true (by omega)]
  have hu1 : tup (IntKind.u64.wrap (t + tleft t o m)) o m = true := by
    rw [tup_iff, tleft_num, wrap_u64']
    split
    · rw [decide_eq_true (by omega)]
    · rw [decide_eq_true (by omega)]
  cases hu : tup t o m
  · rw [hu] at hr
    have h' : ¬ m ≤ (t + o) % 18446744073709551616 := by rw [tup_iff] at hu; exact of_decide_eq_false hu
    have hn0 : 0 < tleft t o m := by rw [tleft_num, if_neg h']; omega
    refine walk_no o m t _ (tleft t o m) s W hu1 rfl hn0 (beq_eq_false_iff_ne.2 (by omega)) ?_ hr hs rfl hk2
    rw [tup_iff, wrap_u64', wrap_u64', tleft_num, if_neg h']
    rw [decide_eq_false (by omega)]
  · rw [hu] at hr
    have hz : tleft t o m = 0 := tleft_yes hu
    exact walk_yes o m t _ (tleft t o m) s W hu1 rfl (by rw [hz]; decide) (by rw [hz]; rfl) hr hs rfl hk2

end Go.Proofs.Ytdcgnmekfkjlhaa.TPTimerSkips
