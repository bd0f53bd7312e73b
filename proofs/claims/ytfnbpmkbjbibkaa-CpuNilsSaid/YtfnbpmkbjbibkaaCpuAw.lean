/- Does a machine answer at all? (PK=PCpuNils) -/
import Derived.Test.YtfnbpmkbjbibkaaCpuCl
namespace Go.Proofs.Ytfnbpmkbjbibkaa
open Go Go.RowKit Go.Deep Go.Great Go.Proofs.YtfnbpmkbjbibkaaW.PrintWords Go.Proofs.Ytfnbpmkbjbibkaa.PCpuNils
set_option linter.unusedVariables false
set_option linter.unusedSimpArgs false

set_option maxRecDepth 100000 in
set_option maxHeartbeats 2000000 in
theorem lay_nil {w : World} {R BB BW BG n k : Nat} {l : List Int} {ws : List Bool} {gs : List Int} (h : IsRam w R BB BW BG n k l ws gs) : Calls Try.prog 45 #[.pointer (some ⟨R, 0, none⟩), .slice none 0 0] w fun e w' => e = .returned (.int .i64 0) ∧ Below w.heap.size w w' := by
  have H := Aside0.mk h
  have HC := Aside0.mk (fun w' => image_Check.calls 5 none 0 [] (n : Int) 0 w' (Kd.C_nil _ _) (Nat.le_refl _) (by rfl))
  clear h
  go_enter Try.func45, Try.ntmps45
  go_wp2_with fail
  refine (size_calls _ H.out).mono ?_
  rintro e w1 ⟨rfl, d1⟩
  have D1 := Aside0.mk d1
  clear d1
  go_wp2_with fail
  refine (HC.out w1).mono ?_
  rintro e w2 ⟨rfl, b2⟩
  have B2 := Aside0.mk (below_on D1.out.below b2)
  clear b2 D1 HC
  go_wp2_with fail
  go_loopg [19] 1 (fun g i wr => g = 1 ∧ i = .int .i64 0 ∧ Aside0 (Below w.heap.size w wr))
  case atStart => exact ⟨rfl, rfl, B2⟩
  case round =>
    obtain ⟨rfl, rfl, BR⟩ := hrel
    clear B2
    go_wp2_with fail
    go_ret
    exact ⟨rfl, BR.out⟩
/-- The machine of a program that is no more than asked after. -/
theorem arow_C (w : World) (A : Option Addr) (al : List (Int × Int)) : AR w none [] := fun i p hp => by cases hp
set_option maxRecDepth 100000 in
set_option maxHeartbeats 4000000 in
theorem cpu_awake_calls (w : World) : Calls Try.prog 8 #[] w fun e w' => e = .returned (.bool true) ∧ Below w.heap.size w w' := by
  have HNEW := Aside0.mk (cnew_ok w w (Below.refl _ _) 64 (by decide) (by decide) (by decide) none 0 0 (List.replicate 64 0) (fun w1 R BB BW BG hb h1 h2 h3 h4 hr => (lay_nil hr).mono fun e w2 ⟨he, hb2⟩ => ⟨he, ⟨_, _, hr.below hb2⟩, OnlyP.of_below hb2⟩) none 0 [] (arow_C w none []) (fun _ => ⟨rfl, rfl⟩) (fun p hp => by cases hp) (by decide) (by intro i; intros; simp_all))
  go_enter Try.func8, Try.ntmps8
  go_wp2_with fail
  refine HNEW.out.mono ?_
  rintro e w1 ⟨p, B, R, C, T, BB, BW, BG, X, ws, gs, rfl, mc, b1⟩
  have M1 := Aside0.mk mc
  have B1 := Aside0.mk b1
  clear mc b1 HNEW
  go_wp2_with fail
  refine (cset_ok M1.out.im 5 (by decide) (by decide) 7).mono ?_
  rintro e w2 ⟨rfl, im2, o2⟩
  have M2 := Aside0.mk (M1.out.own im2 o2)
  have B2 := Aside0.mk (o2.below M1.out.ap B1.out)
  clear im2 o2 M1 B1
  go_wp2_with fail
  refine (cretire_ok M2.out.im 2147483652).mono ?_
  rintro e w3 ⟨rfl, im3, o3⟩
  have M3 := Aside0.mk (M2.out.own im3 o3)
  have B3 := Aside0.mk (o3.below M2.out.ap B2.out)
  clear im3 o3 M2 B2
  go_wp2_with fail
  refine (cstate_ev M3.out (EO.nil w.heap.size w3) (by decide) (by decide) (by decide)).mono ?_
  rintro e w4 ⟨vr, vx, vo, ve, rfl, o1, o2, o3, eo, b4⟩
  have B4 := Aside0.mk (below_on B3.out b4)
  have HO := Aside0.mk (And.intro o1 (And.intro o2 (And.intro o3 eo)))
  clear o1 o2 o3 eo b4 M3 B3
  have HDS : Aside0 (w.heap.size ≤ w4.heap.size) := ⟨B4.out.size⟩
  have HR : Aside0 ((rZ.set 5 (.int .u32 7)).length = 32 ∧ (∀ v ∈ rZ.set 5 (.int .u32 7), v.oneCell' = true) ∧ (rZ.set 5 (Value.int .u32 7))[5]? = some (.int .u32 7)) := ⟨by simp [rZ_len], fun v hv => by
    rcases List.mem_or_eq_of_mem_set hv with hv | rfl
    · exact rZ_one v hv
    · rfl, rfl⟩
  have HW : Aside0 (IntKind.u64.wrap (0 + 1) = 1) := ⟨by decide⟩
  rw [HW.out]
  generalize rZ.set 5 (Value.int .u32 7) = rg at HR ⊢
  have HFO := Aside0.mk fN_one
  have HFL : Aside0 (fN.length = 9 ∧ fN[0]? = some (.int .u32 6144)) := ⟨⟨rfl, rfl⟩⟩
  generalize fN = fl at HFO HFL ⊢
  have HL1 : Aside0 (∀ v ∈ sL vr vx vo false ((0 : Nat) : Int) 0 18446744073709551615 false false 0 ve, v.oneCell' = true) := ⟨by
    obtain ⟨_, _, rfl⟩ := owns_form HO.out.1
    obtain ⟨_, _, rfl⟩ := owns_form HO.out.2.1
    obtain ⟨_, _, rfl⟩ := owns_form HO.out.2.2.1
    obtain ⟨_, _, rfl, _⟩ := HO.out.2.2.2.es
    simp [sL, Value.oneCell']⟩
  generalize hLL : sL vr vx vo false ((0 : Nat) : Int) 0 18446744073709551615 false false 0 ve = L at HL1 ⊢
  have HLL : Aside0 (L[6]? = some (.int .u64 18446744073709551615) ∧ L.length = 11) := ⟨by rw [← hLL]; exact ⟨rfl, rfl⟩⟩
  clear hLL HO
  go_upto_region 5 with (first
    | (refine wpList_alloc_z rfl 43 rfl zS zS_zero ?_; intro w5 hb5 hB5; have HB5 := Aside0.mk hb5; have BB5 := Aside0.mk (below_on B4.out hB5); clear hb5 hB5)
    | ((with_reducible refine gate_store (t := 43) (p := 3) (v := .tmp 13) rfl ?_); refine wpList_store_arr rfl 43 (.tmp 3) (.tmp 13) rfl w4.heap.size rfl (cH 2147483652 rg fl 1 1 L).toArray rfl zS 43 HB5.out (by rw [zS_size, cH_size HR.out.1 HFL.out.1, HLL.out.2]) (by rw [cH_size HR.out.1 HFL.out.1, HLL.out.2]; exact st_size) (cH_one HR.out.2.1 HFO.out HL1.out) ?_; intro w6 hf ho; have HF6 := Aside0.mk hf; have B6 := Aside0.mk (ho.below HDS.out BB5.out); clear hf ho))
  clear HDS BB5 HB5 B4
  generalize w4.heap.size = D at HF6 ⊢
  have c0 : w6.cell? ⟨D, 0, none⟩ = some (.int .u32 2147483652) := at_P HF6.out
  have c6 : w6.cell? ⟨D, 6, none⟩ = some (.int .u32 7) := by
    rw [cell_of_row w6 D 6 _ _ _ HF6.out, List.getElem?_toArray, show 6 = 1 + 5 from rfl]; exact cH_r HR.out.1 HFL.out.1 5 _ HR.out.2.2
  have c33 : w6.cell? ⟨D, 33, none⟩ = some (.int .u32 6144) := by
    rw [cell_of_row w6 D 33 _ _ _ HF6.out, List.getElem?_toArray, show 33 = 33 + 0 from rfl]; exact cH_f HR.out.1 HFL.out.1 0 _ HFL.out.2
  have c50 : w6.cell? ⟨D, 50, none⟩ = some (.int .u64 18446744073709551615) := at_L HF6.out HR.out.1 HFL.out.1 6 HLL.out.1
  go_simp
  go_wp2
  go_ret
  exact ⟨rfl, B6.out⟩
end Go.Proofs.Ytfnbpmkbjbibkaa
