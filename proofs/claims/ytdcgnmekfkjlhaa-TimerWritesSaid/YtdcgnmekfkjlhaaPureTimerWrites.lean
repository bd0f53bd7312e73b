/- TimerWrites in plain numbers: what is any timer behind any word written to any register at any tick. -/
import Derived.Test.YtdcgnmekfkjlhaaWalkTimerWrites
import Derived.Test.YtdcgnmekfkjlhaaTimerWritePTimerWrites
import Derived.Test.YtdcgnmekfkjlhaaTimerPure
namespace Go.Proofs.Ytdcgnmekfkjlhaa.TPTimerWrites
open Go Go.RowKit Go.Proofs.Ytdcgnmekfkjlhaa Go.Proofs.Ytdcgnmekfkjlhaa.PTimerWrites Go.Proofs.YtdcgnmekfkjlhaaW.PrintWords
set_option linter.unusedVariables false

theorem ref_has (a : Int) : mimesisref13_Has.f a = timer_Has.f a := by
  unfold mimesisref13_Has.f timer_Has.f
  split
  · rfl
  · split
    · rfl
    · split
      · rfl
      · split
        · rfl
        · split
          · rename_i h; rw [h]; rfl
          · rename_i h; rw [beq_eq_false_iff_ne.2 h]
theorem wf_u32' {x : Int} (h : (Lit.int .u32 x).wf = true) : 0 ≤ x ∧ x < 4294967296 := by
  simp [Lit.wf, IntKind.min, IntKind.max, IntKind.bits, IntKind.signed] at h; omega

/-- The timer behind a word written. -/
def wlo (n x : Int) : Int := n / 4294967296 * 4294967296 + x
def whi (n x : Int) : Int := x * 4294967296 + n % 4294967296
theorem wlo_lt {n x : Int} (h0 : 0 ≤ n) (h1 : n < 18446744073709551616) (x0 : 0 ≤ x) (x1 : x < 4294967296) : 0 ≤ wlo n x ∧ wlo n x < 18446744073709551616 := by unfold wlo; omega
theorem whi_lt {n x : Int} (h0 : 0 ≤ n) (h1 : n < 18446744073709551616) (x0 : 0 ≤ x) (x1 : x < 4294967296) : 0 ≤ whi n x ∧ whi n x < 18446744073709551616 := by unfold whi; omega
theorem put_lo_eq {n x : Int} (h0 : 0 ≤ n) (h1 : n < 18446744073709551616) (x0 : 0 ≤ x) (x1 : x < 4294967296) : wput false n x = wlo n x := by rw [wput_eq false n x h0 h1 x0 x1, if_neg (by simp)]; rfl
theorem put_hi_eq {n x : Int} (h0 : 0 ≤ n) (h1 : n < 18446744073709551616) (x0 : 0 ≤ x) (x1 : x < 4294967296) : wput true n x = whi n x := by rw [wput_eq true n x h0 h1 x0 x1, if_pos rfl]; rfl
theorem ref_lo {n x : Int} (h0 : 0 ≤ n) (h1 : n < 18446744073709551616) (x0 : 0 ≤ x) (x1 : x < 4294967296) : IntKind.u64.wrap ((IntKind.u64.wrap ((IntKind.u64.wrap (Int.tdiv n 4294967296)) * 4294967296)) + (IntKind.u64.wrap x)) = wlo n x := by
  rw [Int.tdiv_eq_ediv_of_nonneg h0]
  simp only [wrap_u64', wlo]
  omega
theorem ref_hi {n x : Int} (h0 : 0 ≤ n) (h1 : n < 18446744073709551616) (x0 : 0 ≤ x) (x1 : x < 4294967296) : IntKind.u64.wrap ((IntKind.u64.wrap ((IntKind.u64.wrap x) * 4294967296)) + (Int.tmod n 4294967296)) = whi n x := by
  rw [Int.tmod_eq_emod_of_nonneg h0]
  simp only [wrap_u64', whi]
  omega
/-- The time behind an offset made of a time. -/
theorem tnow_back (r t : Int) (r0 : 0 ≤ r) (r1 : r < 18446744073709551616) : tnow t (IntKind.u64.wrap (r - t)) = r := by
  unfold tnow
  rw [wrap_u64', wrap_u64']
  omega
theorem read_lo {n x : Int} (h0 : 0 ≤ n) (h1 : n < 18446744073709551616) (x0 : 0 ≤ x) (x1 : x < 4294967296) : wlo n x % 4294967296 = x := by unfold wlo; omega
theorem read_hi {n x : Int} (h0 : 0 ≤ n) (h1 : n < 18446744073709551616) (x0 : 0 ≤ x) (x1 : x < 4294967296) : whi n x / 4294967296 = x := by unfold whi; omega
theorem bit1 (x : Int) (x0 : 0 ≤ x) (x1 : x < 4294967296) : Go.bits .and .u32 x 1 = x % 2 :=
  bits_mask .u32 32 (by decide) (fun n h₀ h₁ => by rw [IntKind.wrap_u32]; omega) 1 (by decide) x x0 x1

theorem timer_writes (o m : Int) (s : Bool) (a x t : Int) (W : World) (u0 : (Lit.int .u64 o).wf = true) (u1 : (Lit.int .u64 m).wf = true) (w1 : (Lit.int .u32 a).wf = true) (w2 : (Lit.int .u32 x).wf = true) (w3 : (Lit.int .u64 t).wf = true) :
    Calls Try.prog 8 #[.agg #[.int .u64 o, .int .u64 m, .bool s], .agg #[.int .u32 a, .int .u32 x], .int .u64 t] W fun e w' => e = .returned (.bool true) ∧ Below W.heap.size W w' := by
  obtain ⟨m0, m1⟩ := wf_u64 u1
  obtain ⟨x0, x1⟩ := wf_u32' w2
  obtain ⟨n0, n1⟩ := tnow_lt t o
  by_cases ha : a ∈ regs
  · have h := has_yes a ha
    have hB : mimesisref13_Has.f a = some true := by rw [ref_has]; exact h
    have ha' := ha
    simp only [regs, List.mem_cons, List.not_mem_nil, or_false] at ha'
    have hn : mimesisref13_Now.f o m s t = some (tnow t o) := rfl
    rcases ha' with rfl | rfl | rfl | rfl | rfl
    · refine walk_soft o m t _ x s W hB o m (x % 2) (x % 2 == 1) ?_ rfl (Int.tmod_eq_emod_of_nonneg x0) (fun w B hT => ?_) (fun w B hT => write_soft w B o m _ x t _ s _ hT h (by kernel_rfl) (bit1 x x0 x1) rfl)
      · unfold mimesisref13_Write.f
        rw [hn, Option.bind_some, if_neg (by decide), if_neg (by decide), if_neg (by decide), if_neg (by decide), Int.tmod_eq_emod_of_nonneg x0]
      · have hv : x % 2 = if (x % 2 == 1) = true then 1 else 0 := by
          rcases Int.emod_two_eq x with e | e <;> rw [e] <;> rfl
        rw [hv]
        have := read_soft w B o m 33554432 t _ (x % 2 == 1) hT h rfl (by kernel_rfl)
        rw [← hv] at this ⊢
        exact this
    · obtain ⟨r0, r1⟩ := wlo_lt m0 m1 x0 x1
      refine walk_other o m t _ x s W hB o (wlo m x) x s ?_ rfl rfl (fun w B hT => ?_) (fun w B hT => write_cmp w B o m _ x t 0 _ s false hT h (by kernel_rfl) rfl (by kernel_rfl) (put_lo_eq m0 m1 x0 x1))
      · unfold mimesisref13_Write.f
        rw [hn, Option.bind_some, if_pos rfl, ref_lo m0 m1 x0 x1]
      · exact read_cmp w B o _ _ t 0 x s false hT h (by kernel_rfl) rfl (by kernel_rfl) (by rw [half_num _ false r0 r1, if_neg (by simp), read_lo m0 m1 x0 x1])
    · obtain ⟨r0, r1⟩ := whi_lt m0 m1 x0 x1
      refine walk_other o m t _ x s W hB o (whi m x) x s ?_ rfl rfl (fun w B hT => ?_) (fun w B hT => write_cmp w B o m _ x t 4 _ s true hT h (by kernel_rfl) rfl (by kernel_rfl) (put_hi_eq m0 m1 x0 x1))
      · unfold mimesisref13_Write.f
        rw [hn, Option.bind_some, if_neg (by decide), if_pos rfl, ref_hi m0 m1 x0 x1]
      · exact read_cmp w B o _ _ t 4 x s true hT h (by kernel_rfl) rfl (by kernel_rfl) (by rw [half_num _ true r0 r1, if_pos rfl, read_hi m0 m1 x0 x1])
    · obtain ⟨r0, r1⟩ := wlo_lt n0 n1 x0 x1
      have hk := tnow_back (wlo (tnow t o) x) t r0 r1
      refine walk_other o m t _ x s W hB (IntKind.u64.wrap (wlo (tnow t o) x - t)) m x s ?_ rfl rfl (fun w B hT => ?_) (fun w B hT => write_time w B o m _ x t 0 _ s false hT h (by kernel_rfl) rfl (by kernel_rfl) (put_lo_eq n0 n1 x0 x1))
      · unfold mimesisref13_Write.f
        rw [hn, Option.bind_some, if_neg (by decide), if_neg (by decide), if_pos rfl, ref_lo n0 n1 x0 x1]
      · exact read_time w B _ m _ t 0 x s false hT h (by kernel_rfl) rfl (by kernel_rfl) (by rw [hk, half_num _ false r0 r1, if_neg (by simp), read_lo n0 n1 x0 x1])
    · obtain ⟨r0, r1⟩ := whi_lt n0 n1 x0 x1
      have hk := tnow_back (whi (tnow t o) x) t r0 r1
      refine walk_other o m t _ x s W hB (IntKind.u64.wrap (whi (tnow t o) x - t)) m x s ?_ rfl rfl (fun w B hT => ?_) (fun w B hT => write_time w B o m _ x t 4 _ s true hT h (by kernel_rfl) rfl (by kernel_rfl) (put_hi_eq n0 n1 x0 x1))
      · unfold mimesisref13_Write.f
        rw [hn, Option.bind_some, if_neg (by decide), if_neg (by decide), if_neg (by decide), if_pos rfl, ref_hi n0 n1 x0 x1]
      · exact read_time w B _ m _ t 4 x s true hT h (by kernel_rfl) rfl (by kernel_rfl) (by rw [hk, half_num _ true r0 r1, if_pos rfl, read_hi n0 n1 x0 x1])
  · have h := has_no a ha
    exact walk_no o m t a x s W (by rw [ref_has]; exact h) (fun w B hT => write_no w B o m a x t s hT h)

end Go.Proofs.Ytdcgnmekfkjlhaa.TPTimerWrites
