/- The law CpuNils: a nil machine. (PK=PCpuNils) -/
import Derived.Test.YtfnbpmkbjbibkaaCpuAw
namespace Go.Proofs.Ytfnbpmkbjbibkaa
open Go Go.RowKit Go.Deep Go.Great Go.Proofs.YtfnbpmkbjbibkaaW.PrintWords Go.Proofs.Ytfnbpmkbjbibkaa.PCpuNils
set_option linter.unusedVariables false
set_option linter.unusedSimpArgs false

def kV : List (Option IntKind) := [some .u64, some .u64, some .u64, some .u32]
theorem kV_of : kindsOf Try.prog 20 67 = some kV := by kernel_rfl
def zV : List Value := [.int .u64 0, .int .u64 0, .int .u64 0, .int .u32 0]
theorem zV_fit : Fits kV zV := .cons ⟨_, rfl⟩ (.cons ⟨_, rfl⟩ (.cons ⟨_, rfl⟩ (.cons ⟨_, rfl⟩ .nil)))
theorem zV_built : Try.prog.built 67 [] = some zV.toArray := by kernel_rfl
theorem zT_built : Try.prog.built 41 [] = some #[.int .u64 0, .int .u64 0, .bool false] := by kernel_rfl
theorem zS_built2 : Try.prog.built 43 [(10, .agg #[.int .u64 0, .int .u64 0, .bool false])] = some zS := by kernel_rfl
theorem rZ_fits : Fits (List.replicate 32 (some .u32)) rZ := fits_ints .u32 (List.replicate 32 0)
theorem fZ_fits : Fits kF fZ := .cons ⟨_, rfl⟩ (.cons ⟨_, rfl⟩ (.cons ⟨_, rfl⟩ (.cons ⟨_, rfl⟩ (.cons ⟨_, rfl⟩ (.cons ⟨_, rfl⟩ (.cons ⟨_, rfl⟩ (.cons ⟨_, rfl⟩ (.cons ⟨_, rfl⟩ .nil))))))))
/-- Two nil machines' states. -/
theorem sm_zero (w : World) : SmIn w true true true true true 0 rZ fZ 0 0 nl nl nl false 0 0 0 false false 0 nl 0 rZ fZ 0 0 nl nl nl false 0 0 0 false false 0 nl :=
  have hE : ∀ w' : World, Calls Try.prog 42 #[nl, nl] w' fun e w'' => e = .returned (.bool true) ∧ Below w'.heap.size w' w'' := fun w' => slices_Equal_byte_byte.calls 3 none 0 [] none 0 [] true w' (Kd.C_nil _ _) (Nat.le_refl _) (Kd.C_nil _ _) (Nat.le_refl _) rfl |>.mono fun e w2 ⟨h1, h2⟩ => ⟨h1, h2.below⟩
  ⟨rZ_len, fZ_len, rZ_len, fZ_len, rZ_fits, rZ_fits, fZ_fits, fZ_fits, by simp [sL, nl, Value.oneCell'], by simp [sL, nl, Value.oneCell'], by simp, fun w' _ _ => hE w', fun w' _ _ => hE w', fun w' _ _ => hE w', fun w' _ _ =>
    (sameev_calls w' none none 0 0 [] [] (ES.nil _ _) (ES.nil _ _) (by decide) (by decide)).mono fun e w2 ⟨x, h1, h2, h3⟩ => ⟨by rw [h1, h2.2 rfl], h3.below⟩⟩

set_option maxRecDepth 100000 in
set_option maxHeartbeats 4000000 in
theorem cpu_nils (n x : Int) (W : World) (h1 : (Lit.int .i64 n).wf = true) (h2 : (Lit.int .u32 x).wf = true) : Calls Try.prog 6 #[.int .i64 n, .int .u32 x] W fun e w' => e = .returned (.bool true) ∧ Below W.heap.size W w' := by
  have HW2 := Aside0.mk h2
  clear h1 h2
  go_enter Try.func6, Try.ntmps6
  go_wp2_with fail
  refine (cset_nil _ _ _).mono ?_
  rintro e w1 ⟨rfl, d1⟩
  have B1 := Aside0.mk d1.below
  clear d1
  go_wp2_with fail
  refine (cretire_nil _ _).mono ?_
  rintro e w2 ⟨rfl, d1⟩
  have B2 := Aside0.mk (below_on B1.out d1.below)
  clear d1 B1
  go_wp2_with fail
  refine (ctrap_nil _ _ _).mono ?_
  rintro e w3 ⟨rfl, d1⟩
  have B3 := Aside0.mk (below_on B2.out d1.below)
  clear d1 B2
  go_wp2_with fail
  refine (csend_nil _ _).mono ?_
  rintro e w4 ⟨rfl, d1⟩
  have B4 := Aside0.mk (below_on B3.out d1.below)
  clear d1 B3
  go_wp2_with fail
  refine (chalt_nil _ _).mono ?_
  rintro e w5 ⟨rfl, d1⟩
  have B5 := Aside0.mk (below_on B4.out d1.below)
  clear d1 B4
  go_wp2_with fail
  refine (cstate_nil _).mono ?_
  rintro e w6 ⟨rfl, d1⟩
  have B6 := Aside0.mk (below_on B5.out d1)
  have HS6 := Aside0.mk B6.out.size
  clear d1 B5
  go_wp2_with (first
    | (refine wpList_alloc_z rfl 43 rfl zS zS_zero ?_; intro w7 hb7 hB7; have HB7 := Aside0.mk hb7; have BB7 := Aside0.mk (below_on B6.out hB7); clear hb7 hB7)
    | ((with_reducible refine gate_store (t := 43) (p := 6) (v := .tmp 26) rfl ?_); refine wpList_store_arr rfl 43 (.tmp 6) (.tmp 26) rfl w6.heap.size rfl zS rfl zS 43 HB7.out rfl (by rw [zS_size]; exact st_size) zS_one ?_; intro w8 hf ho; have HF8 := Aside0.mk hf; have B8 := Aside0.mk (ho.below HS6.out BB7.out); clear hf ho))
  clear BB7 HB7 B6
  generalize w6.heap.size = D at HF8 HS6 ⊢
  refine (cbus_nil _).mono ?_
  rintro e w9 ⟨rfl, d1⟩
  have B9 := Aside0.mk (below_on B8.out d1.below)
  have HF9 := Aside0.mk (blk_below HF8.out d1.below)
  clear d1 B8 HF8
  go_wp2_with fail
  refine (cenv_nil _).mono ?_
  rintro e w10 ⟨rfl, d1⟩
  have B10 := Aside0.mk (below_on B9.out d1)
  have HF10 := Aside0.mk (blk_below HF9.out d1)
  clear d1 B9 HF9
  go_wp2_with fail
  refine (creg_nil _ _).mono ?_
  rintro e w11 ⟨rfl, d1⟩
  have B11 := Aside0.mk (drawn_below' B10.out d1)
  have HF11 := Aside0.mk (blk_below HF10.out d1.below)
  clear d1 B10 HF10
  go_wp2_with (first
    | ((with_reducible refine gate_dst (N := 43) rfl ?_); refine wpListW_load_arr rfl 43 (.tmp 6) rfl D rfl zS HF11.out _ Try.underlying43 rfl (by rw [zS_size]; exact st_size) ?_)
    | ((with_reducible refine gate_dst (N := 45) rfl ?_); refine wpListW_build rfl 43 #[(10, .tmp 44)] rfl zS zS_built2 ?_))
  refine (csame_calls _ (sm_zero _)).mono ?_
  rintro e w12 ⟨rfl, d1⟩
  have B12 := Aside0.mk (below_on B11.out d1)
  clear d1 B11 HF11
  go_wp2_with fail
  refine (cpu_awake_calls _).mono ?_
  rintro e w13 ⟨rfl, d1⟩
  have B13 := Aside0.mk (below_on B12.out d1)
  clear d1 B12
  go_wp2_with fail
  go_ret
  exact ⟨rfl, B13.out⟩
end Go.Proofs.Ytfnbpmkbjbibkaa
