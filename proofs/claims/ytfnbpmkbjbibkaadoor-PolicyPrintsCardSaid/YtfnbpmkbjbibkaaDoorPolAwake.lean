/- The policy: the statements' 'awake'. -/
import Derived.Test.YtfnbpmkbjbibkaaDoorPolParse
namespace Go.Proofs.YtfnbpmkbjbibkaaDoor
open Go Go.RowKit Go.Deep Go.Proofs.YtfnbpmkbjbibkaaDoor.QPolicyParses Go.Proofs.YtfnbpmkbjbibkaaDoorW.PrintWords
set_option linter.unusedVariables false
set_option linter.unusedSimpArgs false

def sFuse : ByteArray := ⟨#[102, 117, 115, 101, 61, 49, 51]⟩
def sDash : ByteArray := ⟨#[45]⟩
def sAll : ByteArray := ⟨#[102, 117, 115, 101, 61, 49, 51, 32, 45]⟩
theorem ra_all : (⟨(Lib.replaceAll sAll.data.toList (⟨#[10]⟩ : ByteArray).data.toList (⟨#[32]⟩ : ByteArray).data.toList).toArray⟩ : ByteArray) = sAll := by kernel_rfl
theorem count_all : Lib.countB sAll ⟨#[32]⟩ = 1 := by kernel_rfl
theorem split_all : Lib.splitB ⟨#[32]⟩ 0 1 sAll = [sFuse, sDash] := by kernel_rfl
theorem cut_fuse : ((⟨(Lib.cut sFuse.data.toList (⟨#[61]⟩ : ByteArray).data.toList).1.toArray⟩ : ByteArray), (⟨(Lib.cut sFuse.data.toList (⟨#[61]⟩ : ByteArray).data.toList).2.1.toArray⟩ : ByteArray), (Lib.cut sFuse.data.toList (⟨#[61]⟩ : ByteArray).data.toList).2.2) = (⟨#[102, 117, 115, 101]⟩, ⟨#[49, 51]⟩, true) := by kernel_rfl
theorem num_13 : policy_number.f 5 ⟨#[49, 51]⟩ = some (13, true) := by kernel_rfl
theorem turns_13 : policy_Turns.f 20 13 = some [true, false, true] := by kernel_rfl
theorem cA1 : Lib.countB sAll ⟨#[10]⟩ = 0 := by kernel_rfl

theorem choice_fuse (w : World) (hw : Words w) : Calls Tryd.prog 61 #[.string sFuse] w fun e w' => e = .returned (.tuple #[.agg #[.int .i64 2, .int .i64 13], .bool true]) ∧ Below w.heap.size w w' := by
  refine choice_hit w sFuse ⟨#[102, 117, 115, 101]⟩ ⟨#[49, 51]⟩ true 5 2 13 true (by kernel_rfl) hw (by omega) (by omega) (fun j h1 h2 => ?_) (by kernel_rfl) (fun w' hb => ?_) num_13
  · have : j = 1 := by omega
    subst this
    exact (show ((wordB 1).toList == (⟨#[102, 117, 115, 101]⟩ : ByteArray).toList) = false by kernel_rfl)
  · obtain ⟨m, hm⟩ := (hw.below hb).2
    have h := Tryd.strings_Cut sFuse ⟨#[61]⟩ m w' (by decide) hm
    have e := cut_fuse
    simp only [Prod.mk.injEq] at e
    rw [e.1, e.2.1, e.2.2] at h
    exact h.mono fun e w'' ⟨h1, n, h2⟩ => ⟨h1, h2 ▸ ⟨⟨n, rfl⟩⟩⟩

theorem parse_awake (w : World) (hw : Words w) : Calls Tryd.prog 32 #[.string sAll] w (ParseEnd w (some [(2, 13), (0, 0)])) := by
  refine parse_calls w sAll sAll [sFuse, sDash] (fun x => if x.toList == [45] then (0, 0, true) else (2, 13, true)) _ (by decide) (by decide) (fun w' hb => ?_) (fun w' hb => ?_) (fun x hx w' hb => ?_) (by kernel_rfl)
  · obtain ⟨m, hm⟩ := (hw.below hb).2
    have h := Tryd.strings_ReplaceAll sAll ⟨#[10]⟩ ⟨#[32]⟩ m w' (by decide) hm (by decide) (by rw [cA1]; decide)
    rw [ra_all] at h
    exact h
  · obtain ⟨m, hm⟩ := (hw.below hb).2
    have h := Tryd.strings_Split sAll ⟨#[32]⟩ m w' (by decide) hm (by decide)
    rw [count_all, split_all] at h
    exact h.mono fun e w'' ⟨h1, h2⟩ => ⟨w'.heap.size, h1, h2 ▸ blk_new w' _, h2 ▸ below_alloc (Below.refl _ _) _⟩
  · simp only [List.mem_cons, List.not_mem_nil, or_false] at hx
    rcases hx with rfl | rfl
    · rw [show (if sFuse.toList == [45] then ((0 : Int), (0 : Int), true) else (2, 13, true)) = (2, 13, true) by kernel_rfl]
      exact choice_fuse w' (hw.below hb)
    · rw [show (if sDash.toList == [45] then ((0 : Int), (0 : Int), true) else (2, 13, true)) = (0, 0, true) by kernel_rfl]
      exact choice_dash w' sDash (by kernel_rfl) (hw.below hb)

set_option maxRecDepth 100000 in
set_option maxHeartbeats 1000000 in
theorem pol_awake_calls (w : World) (hw : Words w) : Calls Tryd.prog 31 #[] w fun e w' => e = .returned (.bool true) ∧ Below w.heap.size w w' := by
  have HP := Aside0.mk (parse_awake w hw)
  clear hw
  go_enter Tryd.func31, Tryd.ntmps31
  go_wp2_with fail
  refine HP.out.mono ?_
  rintro e w1 ⟨b1, hr⟩
  simp only [List.length_cons, List.length_nil] at hr
  obtain ⟨v, rfl, ho⟩ := hr
  have B1 := Aside0.mk b1
  obtain ⟨g, cap, cur, rfl, hbk⟩ : ∃ g cap cur, v = .slice (some ⟨g, 0, none⟩) 2 cap ∧ cur = 0 := by
    rcases ho.2 with ⟨_, h0⟩ | ⟨g, cap, cur, rfl, _⟩
    · exact absurd h0 (by decide)
    · exact ⟨g, cap, 0, rfl, rfl⟩
  have HC : Aside0 (∀ w', Below w1.heap.size w1 w' → w'.cell? ⟨g, 0, none⟩ = some (.int .i64 2) ∧ w'.cell? ⟨g, 1, none⟩ = some (.int .i64 13)) := ⟨fun w' hb => by
    have h0 : w1.cell? ⟨g, 0, none⟩ = some (.int .i64 2) := by rw [ho.cellAt _ (by omega)]; rfl
    have h1 : w1.cell? ⟨g, 1, none⟩ = some (.int .i64 13) := by rw [ho.cellAt _ (by omega)]; rfl
    exact ⟨pw_cell_below hb h0, pw_cell_below hb h1⟩⟩
  clear ho b1 HP
  go_wp2_with fail
  refine (policy_Turns.calls 20 13 _ w1 turns_13).mono ?_
  rintro e w2 ⟨v2, rfl, hR, b2⟩
  obtain ⟨A, c, rfl, hc, hC⟩ := Kd.R_reads hR
  obtain ⟨ad, rfl, k0⟩ := Kd.at_bool hC 0 (by omega) (by decide)
  obtain ⟨ad', e1, k1⟩ := Kd.at_bool hC 1 (by omega) (by decide)
  cases e1
  obtain ⟨ad', e1, k2⟩ := Kd.at_bool hC 2 (by omega) (by decide)
  cases e1
  have t0 : w2.cell? ad = some (.bool true) := k0
  have t0' : w2.cell? (ad.add 0) = some (.bool true) := k0
  have t1 : w2.cell? ⟨ad.block, ad.off + 1, none⟩ = some (.bool false) := k1
  have t2 : w2.cell? ⟨ad.block, ad.off + 2, none⟩ = some (.bool true) := k2
  obtain ⟨q0, q1⟩ := HC.out w2 b2
  have B2 := Aside0.mk (below_on B1.out b2)
  clear k0 k1 k2 hC hR b2 B1 HC
  go_wp2_with fail
  have fld : ∀ w, (Instr.field 62 (.agg #[.int .u32 2, .int .i64 16, .int .i64 15, .bool true, .int .i64 0]) 1).run Tryd.prog w = .ok (.int .i64 16) w := fun _ => by kernel_rfl
  refine (policy_New.calls _ _ _ _ _ _ rfl).mono ?_
  rintro e w3 ⟨rfl, b3⟩
  have B3 := Aside0.mk (below_on B2.out b3)
  clear b3
  go_wp2_with fail
  go_ret
  exact ⟨by simp, B3.out⟩
end Go.Proofs.YtfnbpmkbjbibkaaDoor
