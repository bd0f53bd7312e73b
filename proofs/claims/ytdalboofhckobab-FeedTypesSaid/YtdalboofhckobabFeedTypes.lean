/- The walk of FeedTypes. -/
import Derived.Test.YtdalboofhckobabFeedAwake
import Derived.Test.YtdalboofhckobabFeedPlain
namespace Go.Proofs.Ytdalboofhckobab
open Go Go.RowKit Go.Proofs.YtdalboofhckobabW.PrintWords Go.Proofs.Ytdalboofhckobab.PFeedTypes
set_option linter.unusedVariables false
set_option linter.unusedSimpArgs false

set_option maxRecDepth 100000 in
set_option maxHeartbeats 4000000 in
theorem types_long (s : ByteArray) (t g : Int) (W : World) (hs : (s.size : Int) > 600) : Calls Try.prog 3 #[.string s, .int .u64 t, .int .i64 g] W fun e w' => e = .returned (.bool true) ∧ Below W.heap.size W w' := by
  have h1 : ((s.size : Int) > 600) = True := by simp; omega
  clear hs
  go_enter Try.func3, Try.ntmps3
  go_wp2_with fail
  refine (awake_calls _).mono ?_
  rintro e w1 ⟨rfl, hb⟩
  have B1 := Aside0.mk hb
  clear hb
  go_wp2_with fail
  go_ret
  exact ⟨rfl, B1.out⟩
set_option maxRecDepth 100000 in
set_option maxHeartbeats 4000000 in
theorem types_range (s : ByteArray) (t g : Int) (W : World) (hs : ¬ (s.size : Int) > 600) (hr : ¬ (t ≤ 4294967296 ∧ 0 ≤ g ∧ g ≤ 4294967296)) : Calls Try.prog 3 #[.string s, .int .u64 t, .int .i64 g] W fun e w' => e = .returned (.bool true) ∧ Below W.heap.size W w' := by
  have HT := Aside0.mk (typed_range s t g hr)
  have h1 : ((s.size : Int) > 600) = False := by simp; omega
  have HR := Aside0.mk hr
  clear hs hr
  go_enter Try.func3, Try.ntmps3
  go_wp2_with fail
  refine (feed_Typed.calls 300 s t g _ _ _ HT.out).mono ?_
  rintro e w1 ⟨v, rfl, hR, hb⟩
  obtain ⟨A, c, rfl, hc, hC⟩ := Kd.R_reads hR
  have B1 := Aside0.mk hb
  clear hR hb hC
  by_cases q1 : t > 4294967296
  · have q1' : (t > 4294967296) = True := by simp [q1]
    clear q1
    go_wp2_with fail
    refine (awake_calls _).mono ?_
    rintro e w2 ⟨rfl, hb⟩
    have B2 := Aside0.mk (B1.out.trans (hb.mono B1.out.size))
    clear hb
    go_wp2_with fail
    go_ret
    exact ⟨rfl, B2.out⟩
  · have q1' : (t > 4294967296) = False := by simp; omega
    by_cases q2 : g < 0
    · have q2' : (g < 0) = True := by simp [q2]
      clear q1 q2
      go_wp2_with fail
      refine (awake_calls _).mono ?_
      rintro e w2 ⟨rfl, hb⟩
      have B2 := Aside0.mk (B1.out.trans (hb.mono B1.out.size))
      clear hb
      go_wp2_with fail
      go_ret
      exact ⟨rfl, B2.out⟩
    · have q2' : (g < 0) = False := by simp; omega
      have q3' : (g > 4294967296) = True := by have := HR.out; simp; omega
      clear q1 q2
      go_wp2_with fail
      refine (awake_calls _).mono ?_
      rintro e w2 ⟨rfl, hb⟩
      have B2 := Aside0.mk (B1.out.trans (hb.mono B1.out.size))
      clear hb
      go_wp2_with fail
      go_ret
      exact ⟨rfl, B2.out⟩
set_option maxRecDepth 100000 in
set_option maxHeartbeats 4000000 in
theorem types_over (s : ByteArray) (t g : Int) (W : World) (hs : ¬ (s.size : Int) > 600) (hl : ¬ s.size ≤ 256) (t1 : t ≤ 4294967296) (g0 : 0 ≤ g) (g1 : g ≤ 4294967296) : Calls Try.prog 3 #[.string s, .int .u64 t, .int .i64 g] W fun e w' => e = .returned (.bool true) ∧ Below W.heap.size W w' := by
  have HT := Aside0.mk (typed_long s t g hl t1 g0 g1)
  have h1 : ((s.size : Int) > 600) = False := by simp; omega
  have q1 : (t > 4294967296) = False := by simp; omega
  have q2 : (g < 0) = False := by simp; omega
  have q3 : (g > 4294967296) = False := by simp; omega
  have q4 : ((s.size : Int) > 256) = True := by simp; omega
  clear hs hl t1 g0 g1
  go_enter Try.func3, Try.ntmps3
  go_wp2_with fail
  refine (feed_Typed.calls 300 s t g _ _ _ HT.out).mono ?_
  rintro e w1 ⟨v, rfl, hR, hb⟩
  obtain ⟨A, c, rfl, hc, hC⟩ := Kd.R_reads hR
  have B1 := Aside0.mk hb
  clear hR hb hC
  go_wp2_with fail
  refine (awake_calls _).mono ?_
  rintro e w2 ⟨rfl, hb⟩
  have B2 := Aside0.mk (B1.out.trans (hb.mono B1.out.size))
  clear hb
  go_wp2_with fail
  go_ret
  exact ⟨rfl, B2.out⟩
set_option maxRecDepth 100000 in
set_option maxHeartbeats 4000000 in
theorem types_ok (s : ByteArray) (t g : Int) (W : World) (hl : s.size ≤ 256) (t0 : 0 ≤ t) (t1 : t ≤ 4294967296) (g0 : 0 ≤ g) (g1 : g ≤ 4294967296) : Calls Try.prog 3 #[.string s, .int .u64 t, .int .i64 g] W fun e w' => e = .returned (.bool true) ∧ Below W.heap.size W w' := by
  have HT := Aside0.mk (typed_f s t g hl t0 t1 g0 g1)
  have HT2 := Aside0.mk (rtyped_f s t g hl t0 t1 g0 g1)
  have HSM := Aside0.mk (same_f (tl s t g 0 s.size) (by rw [tl_length]; omega))
  have h1 : ((s.size : Int) > 600) = False := by simp; omega
  have q1 : (t > 4294967296) = False := by simp; omega
  have q2 : (g < 0) = False := by simp; omega
  have q3 : (g > 4294967296) = False := by simp; omega
  have q4 : ((s.size : Int) > 256) = False := by simp; omega
  clear hl t0 t1 g0 g1
  go_enter Try.func3, Try.ntmps3
  go_wp2_with fail
  refine (feed_Typed.calls 300 s t g _ _ _ HT.out).mono ?_
  rintro e w1 ⟨v, rfl, hR, hb⟩
  obtain ⟨A, c, rfl, hc, hC⟩ := Kd.R_reads hR
  have HA := Aside0.mk hC
  have B1 := Aside0.mk hb
  have HC := Aside0.mk hc
  clear hR hb hC hc
  go_wp2_with fail
  refine (mimesisref41_Typed.calls 300 s t g _ _ HT2.out).mono ?_
  rintro e w2 ⟨v2, rfl, hR2, hb2⟩
  obtain ⟨A2, c2, rfl, hc2, hC2⟩ := Kd.R_reads hR2
  have HA1 := Aside0.mk (Kd.C_below HA.out hb2)
  have HA2 := Aside0.mk hC2
  have HC2 := Aside0.mk hc2
  have B2 := Aside0.mk (B1.out.trans (hb2.mono B1.out.size))
  clear hR2 hb2 hC2 hc2 HA
  go_wp2_with fail
  refine (mimesisref41_Same.calls 1001 A c _ A2 c2 _ _ _ HA1.out HC.out HA2.out HC2.out HSM.out).mono ?_
  rintro e w3 ⟨rfl, hd⟩
  have B3 := Aside0.mk (B2.out.trans (hd.below.mono B2.out.size))
  clear hd
  go_wp2_with fail
  refine (awake_calls _).mono ?_
  rintro e w4 ⟨rfl, hb⟩
  have B4 := Aside0.mk (B3.out.trans (hb.mono B3.out.size))
  clear hb
  go_wp2_with fail
  go_ret
  exact ⟨rfl, B4.out⟩
theorem feed_types (s : ByteArray) (t g : Int) (W : World) (_hs : s.size ≤ maxLen) (ht : (Lit.int .u64 t).wf = true) (_hg : (Lit.int .i64 g).wf = true) : Calls Try.prog 3 #[.string s, .int .u64 t, .int .i64 g] W fun e w' => e = .returned (.bool true) ∧ Below W.heap.size W w' := by
  have t0 : 0 ≤ t := by simp [Lit.wf, IntKind.min, IntKind.max, IntKind.bits, IntKind.signed] at ht; omega
  by_cases h1 : (s.size : Int) > 600
  · exact types_long s t g W h1
  by_cases h2 : t ≤ 4294967296 ∧ 0 ≤ g ∧ g ≤ 4294967296
  · by_cases h3 : s.size ≤ 256
    · exact types_ok s t g W h3 t0 h2.1 h2.2.1 h2.2.2
    · exact types_over s t g W h1 h3 h2.1 h2.2.1 h2.2.2
  · exact types_range s t g W h1 h2
end Go.Proofs.Ytdalboofhckobab
