/- The timer's words in plain numbers. -/
import Derived.Test.YtdcgnmekfkjlhaaTimer
namespace Go.Proofs.Ytdcgnmekfkjlhaa
open Go Go.RowKit
set_option linter.unusedVariables false

theorem wf_u64 {x : Int} (h : (Lit.int .u64 x).wf = true) : 0 ≤ x ∧ x < 18446744073709551616 := by
  simp [Lit.wf, IntKind.min, IntKind.max, IntKind.bits, IntKind.signed] at h; omega
theorem wrap_u64' (n : Int) : IntKind.u64.wrap n = n % 18446744073709551616 := by simp [IntKind.wrap, IntKind.bits, IntKind.signed]
theorem tup_iff (t o m : Int) : tup t o m = decide (m ≤ (t + o) % 18446744073709551616) := by unfold tup tnow; rw [wrap_u64']
theorem tleft_num (t o m : Int) : tleft t o m = if m ≤ (t + o) % 18446744073709551616 then 0 else (m - (t + o) % 18446744073709551616) % 18446744073709551616 := by
  unfold tleft
  rw [tup_iff, wrap_u64']
  unfold tnow
  rw [wrap_u64']
  simp only [decide_eq_true_eq]
theorem tskip_num (t o m : Int) : tskip t o m = if m ≤ (t + o) % 18446744073709551616 then o else (m - t) % 18446744073709551616 := by
  unfold tskip
  rw [tup_iff, wrap_u64']
  simp only [decide_eq_true_eq]

end Go.Proofs.Ytdcgnmekfkjlhaa
