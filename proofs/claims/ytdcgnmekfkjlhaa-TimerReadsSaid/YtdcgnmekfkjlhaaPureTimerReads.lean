/- TimerReads in plain numbers: what any timer's registers say at any tick. -/
import Derived.Test.YtdcgnmekfkjlhaaWalkTimerReads
import Derived.Test.YtdcgnmekfkjlhaaTimerReadPTimerReads
import Derived.Test.YtdcgnmekfkjlhaaTimerPure
namespace Go.Proofs.Ytdcgnmekfkjlhaa.TPTimerReads
open Go Go.RowKit Go.Proofs.Ytdcgnmekfkjlhaa Go.Proofs.Ytdcgnmekfkjlhaa.PTimerReads Go.Proofs.YtdcgnmekfkjlhaaW.PrintWords
set_option linter.unusedVariables false

theorem ref_has (a : Int) : mimesisref13_Has.f a = timer_Has.f a := by
  unfold mimesisref13_Has.f timer_Has.f
  split
  · rfl
  · split
    · rfl
    · split
      · rfl
      · split
        · rfl
        · split
          · rename_i h; rw [h]; rfl
          · rename_i h; rw [beq_eq_false_iff_ne.2 h]
theorem half_lo (n : Int) (h0 : 0 ≤ n) (h1 : n < 18446744073709551616) : Int.tmod n 4294967296 % 4294967296 = n % 4294967296 := by
  rw [Int.tmod_eq_emod_of_nonneg h0]; omega
theorem half_hi (n : Int) (h0 : 0 ≤ n) (h1 : n < 18446744073709551616) : IntKind.u64.wrap (Int.tdiv n 4294967296) % 4294967296 = n / 4294967296 := by
  rw [Int.tdiv_eq_ediv_of_nonneg h0, wrap_u64']; omega
theorem ref_read (o m a t : Int) (s : Bool) (m0 : 0 ≤ m) (m1 : m < 18446744073709551616) : mimesisref13_Read.f o m s a t = some (rval o m a t s) := by
  obtain ⟨n0, n1⟩ := tnow_lt t o
  have hn : mimesisref13_Now.f o m s t = some (tnow t o) := rfl
  unfold mimesisref13_Read.f rval
  rw [hn]
  split
  · rw [half_lo m m0 m1]
  · split
    · rw [half_hi m m0 m1]
    · split
      · rw [Option.bind_some, half_lo _ n0 n1]
      · split
        · rw [Option.bind_some, half_hi _ n0 n1]
        · split <;> rfl

theorem timer_reads (o m : Int) (s : Bool) (a t : Int) (W : World) (u0 : (Lit.int .u64 o).wf = true) (u1 : (Lit.int .u64 m).wf = true) (_w1 : (Lit.int .u32 a).wf = true) (_w2 : (Lit.int .u64 t).wf = true) :
    Calls Try.prog 4 #[.agg #[.int .u64 o, .int .u64 m, .bool s], .int .u32 a, .int .u64 t] W fun e w' => e = .returned (.bool true) ∧ Below W.heap.size W w' := by
  obtain ⟨m0, m1⟩ := wf_u64 u1
  by_cases ha : a ∈ regs
  · have h := has_yes a ha
    exact walk_yes o m t a _ s W h (by rw [ref_has]; exact h) (ref_read o m a t s m0 m1) (fun w B hB => read_calls w B o m a t s hB ha m0 m1)
  · have h := has_no a ha
    exact walk_no o m t a s W h (by rw [ref_has]; exact h) (fun w B _ => read_no w B o m a t s h)

end Go.Proofs.Ytdcgnmekfkjlhaa.TPTimerReads
