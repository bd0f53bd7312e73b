/- The statement BusClasses. -/
import Derived.Test.YtonfblfbmnepoaaDoorBusE
import Derived.Test.YtonfblfbmnepoaaDoorPBusClassesx
import Derived.Deep.RegionHeld3
namespace Go.Proofs.YtonfblfbmnepoaaDoor
open Go Go.RowKit Go.Proofs.YtonfblfbmnepoaaDoorW.PrintWords
set_option linter.unusedVariables false
set_option linter.unusedSimpArgs false

theorem bright_f (n : Int) : PBusClasses.mimesisref10_Right.f n = some (decide (64 ≤ n) && decide (n ≤ 65536) && (n % 64 == 0)) := by
  unfold PBusClasses.mimesisref10_Right.f
  by_cases h1 : 64 ≤ n
  · by_cases h2 : n ≤ 65536
    · rw [if_pos h1, if_pos h2, Int.tmod_eq_emod_of_nonneg (by omega)]; simp [h1, h2]
    · rw [if_pos h1, if_neg h2]; simp [h2]
  · rw [if_neg h1]; simp [h1]
theorem bhas_f (l : List Int) (a m : Int) (hl : l.length ≤ 65536) (a0 : 0 ≤ a) (a1 : a < 4294967296) : PBusClasses.mimesisref10_Has.f l a m = some (rhas l.length a m) := by
  unfold PBusClasses.mimesisref10_Has.f rhas
  have e1 : wrap64 (wrap64 a - 2147483648) = a - 2147483648 := by unfold wrap64; omega
  rw [e1]
  by_cases h1 : 1 ≤ m
  · rw [if_pos h1]
    by_cases h2 : a - 2147483648 ≥ 0
    · rw [if_pos h2]
      by_cases h3 : m ≤ (l.length : Int)
      · have e2 : wrap64 ((l.length : Int) - m) = l.length - m := by unfold wrap64; omega
        rw [if_pos h3, e2]
        have h4 : (2147483648 : Int) ≤ a := by omega
        simp [h1, h3, h4]
      · rw [if_neg h3]; simp [h3]
    · have h4 : ¬ (2147483648 : Int) ≤ a := by omega
      rw [if_neg h2]; simp [h4]
  · rw [if_neg h1]; simp [h1]
theorem rdev_dev (a : Int) (ho : a % 4 = 0) : 0 ≤ rdev a ↔ (a = 1048576 ∨ a = 268435456 ∨ a = 268435460 ∨ a = 33554432 ∨ a = 33570816 ∨ a = 33570820 ∨ a = 33603576 ∨ a = 33603580) := by
  unfold rdev
  constructor
  · intro h
    repeat' (first | omega | split at h)
  · intro h
    repeat' (first | omega | split)
theorem j0_1 (x0 : List Int) (x1 x2 : Int) (x16 : Bool) : PBusClasses.mimesisref14_Class.j0 1 x0 x1 x2 x16 = if x16 = true then (some 0) else ((PBusClasses.mimesisref10_Has.f x0 x1 x2).bind fun t107 => (if t107 = true then (some 1) else (if x2 = 4 then (if x1 = 1048576 then (some 2) else (if x1 = 268435456 then (some 2) else (if x1 = 268435460 then (some 2) else ((PBusClasses.mimesisref13_Has.f x1).bind fun t108 => (if t108 = true then (some 2) else (some 0)))))) else (some 0)))) := rfl
theorem j0_f (l : List Int) (a m : Int) (hm : m = 1 ∨ m = 2 ∨ m = 4) (hl : l.length ≤ 65536) (a0 : 0 ≤ a) (a1 : a < 4294967296) : PBusClasses.mimesisref14_Class.j0 1 l a m (a % m != 0) = some (bclass l.length a m) := by
  rw [j0_1]
  unfold bclass
  rw [if_pos hm]
  by_cases ho : a % m = 0
  · rw [if_neg (by simp [ho]), if_pos ho, bhas_f l a m hl a0 a1, Option.bind_some]
    cases hr : rhas l.length a m
    · simp only [Bool.false_eq_true, if_false]
      by_cases h4 : m = 4
      · subst h4
        simp only [if_true, true_and]
        have hd := rdev_dev a ho
        by_cases hv : 0 ≤ rdev a
        · rw [if_pos hv]
          have := hd.1 hv
          unfold PBusClasses.mimesisref13_Has.f
          rcases this with h | h | h | h | h | h | h | h <;> subst h <;> rfl
        · rw [if_neg hv]
          have hn : ¬ _ := fun h => hv (hd.2 h)
          simp only [not_or] at hn
          obtain ⟨n1, n2, n3, n4, n5, n6, n7, n8⟩ := hn
          unfold PBusClasses.mimesisref13_Has.f
          rw [if_neg n1, if_neg n2, if_neg n3, if_neg n4, if_neg n5, if_neg n6, if_neg n7, Option.bind_some, if_neg (by simpa using n8)]
      · rw [if_neg h4, if_neg (fun h => h4 h.1)]
    · rw [if_pos rfl, if_pos rfl]
  · rw [if_pos (by simpa using ho), if_neg ho]
theorem bclass_f (l : List Int) (a m : Int) (hl : l.length ≤ 65536) (a0 : 0 ≤ a) (a1 : a < 4294967296) : PBusClasses.mimesisref14_Class.f 1 l a m = some (bclass l.length a m) := by
  have hw : PBusClasses.mimesisref01_Width.f m = some (decide (m = 1 ∨ m = 2 ∨ m = 4)) := by
    unfold PBusClasses.mimesisref01_Width.f
    by_cases h1 : m = 1
    · simp [h1]
    · by_cases h2 : m = 2
      · simp [h2]
      · rw [if_neg h1, if_neg h2]; simp [h1, h2]; by_cases h4 : m = 4 <;> simp [h4]
  unfold PBusClasses.mimesisref14_Class.f
  rw [hw, Option.bind_some]
  by_cases hm : m = 1 ∨ m = 2 ∨ m = 4
  · have e : wrap64 a = a := by unfold wrap64; omega
    rw [if_pos (by simpa using hm), if_neg (by omega), e, Int.tmod_eq_emod_of_nonneg a0]
    exact j0_f l a m hm hl a0 a1
  · rw [if_neg (by simpa using hm)]
    rw [j0_1]
    unfold bclass
    rw [if_pos rfl, if_neg hm]
theorem brow_all' {w : World} {g : Nat} {l : List Int} (h : w.heap[g]? = some (.cells (brow l) 5)) (hl : l.length ≤ 65536) : (Kd.int .u8).C w (some ⟨g, 0, none⟩) l.length l := by
  have := brow_C h 0 l.length (by omega) hl
  simpa using this

set_option maxHeartbeats 4000000 in
set_option maxRecDepth 100000 in
theorem classes_no (n a m : Int) (W : World) (hp : Ports W) (hR : (decide (64 ≤ n) && decide (n ≤ 65536) && (n % 64 == 0)) = false) :
    Calls Tryd.prog 3 #[.int .i64 n, .int .u32 a, .int .i64 m] W fun e w' => e = .returned (.bool true) ∧ Below W.heap.size W w' := by
  have HR := Aside0.mk (hR ▸ bright_f n)
  have HP := Aside0.mk hp
  clear hR hp
  have B0 := Aside0.mk (Below.refl W.heap.size W)
  go_enter Tryd.func3, Tryd.ntmps3
  go_wp2_with fail
  refine (PBusClasses.mimesisref10_Right.calls _ _ _ HR.out).mono ?_
  rintro e w1 ⟨rfl, d⟩
  have B1 := Aside0.mk (drawn_below' B0.out d)
  clear d B0
  go_wp2_with fail
  refine (bus_awake_calls _ (HP.out.below B1.out)).mono ?_
  rintro e w2 ⟨rfl, d⟩
  have B2 := Aside0.mk (below_on B1.out d)
  clear d B1
  go_wp2_with fail
  go_ret
  exact ⟨by simp, B2.out⟩

set_option maxHeartbeats 4000000 in
set_option maxRecDepth 100000 in
theorem classes_yes (n : Nat) (a m : Int) (W : World) (hp : Ports W) (h0 : 64 ≤ n) (h1 : n ≤ 65536) (h2 : n % 64 = 0) (a0 : 0 ≤ a) (a1 : a < 4294967296) :
    Calls Tryd.prog 3 #[.int .i64 (n : Int), .int .u32 a, .int .i64 m] W fun e w' => e = .returned (.bool true) ∧ Below W.heap.size W w' := by
  have HR : Aside0 (PBusClasses.mimesisref10_Right.f (n : Int) = some true) := ⟨by
    rw [bright_f]
    have a : (n : Int) % 64 = 0 := by omega
    simp [a]; omega⟩
  have HP := Aside0.mk hp
  have m1 : ∀ w : World, (Instr.makeSlice 29 (.int .i64 (n : Int)) (.int .i64 (n : Int))).run Tryd.prog w = .ok (.slice (some ⟨w.heap.size, 0, none⟩) n n) (w.alloc (.cells (brow (List.replicate n 0)) 5)) := by
    intro w
    obtain ⟨i, hi, hz⟩ := Option.map_eq_some_iff.1 (show (Tryd.prog.info? 5).map (fun i => (i.zero, i.size, i.bytes)) = some (some (.int .u8 0), 1, 1) by kernel_rfl)
    simp only [Prod.mk.injEq] at hz
    obtain ⟨hz0, hz1, hz2⟩ := hz
    have h := run_make (P := Tryd.prog) w 29 5 i (.int .u8 0) Tryd.underlying29 hi hz0 .i64 .i64 (n : Int) (n : Int) (by omega) (by omega) (by rw [hz2]; omega) (by omega)
    rw [hz1] at h
    rw [show (Value.int .u8 0).cells = #[Value.int .u8 0] from rfl, made1, brow_made] at h
    simpa using h
  have HM := Aside0.mk (fun w (hb : Below W.heap.size W w) => made_calls W w hb n h0 h1 h2 none 0 [] (by intro i p h; simp at h) (by simp) (by simp) (by simp) (by intro i p p' h; simp at h))
  have HC := Aside0.mk (fun (w : World) (g : Nat) (h : w.heap[g]? = some (.cells (brow (List.replicate n 0)) 5)) => PBusClasses.mimesisref14_Class.calls 1 _ n (List.replicate n 0) a m _ w (brow_all' h (by simp; omega)) (by simp) (bclass_f (List.replicate n 0) a m (by simp; omega) a0 a1))
  rw [List.length_replicate] at HC
  obtain ⟨v, hv⟩ : ∃ v, bclass n a m = v := ⟨_, rfl⟩
  rw [hv] at HC
  have HV := Aside0.mk hv
  clear hp hv
  have B0 := Aside0.mk (Below.refl W.heap.size W)
  go_enter Tryd.func3, Tryd.ntmps3
  go_wp2_with fail
  refine (PBusClasses.mimesisref10_Right.calls _ _ _ HR.out).mono ?_
  rintro e w1 ⟨rfl, d⟩
  have B1 := Aside0.mk (drawn_below' B0.out d)
  clear d B0
  go_wp2_with fail
  refine (HM.out _ B1.out).mono ?_
  rintro e w1 ⟨B, R, C, T, BB, BW, BG, X, rfl, mb, _⟩
  have M1 := Aside0.mk mb
  have HK : Aside0 (∀ w', Below W.heap.size W w' → Below w1.heap.size w1 w' → Calls Tryd.prog 10 #[.pointer (some ⟨B, 0, none⟩), .int .u32 a, .int .i64 m] w' fun e w'' => e = .returned (.int .i64 v) ∧ Below w'.heap.size w' w'') := ⟨fun w' hb hb1 => by
    have h := class_calls a m (M1.out.b.below hb1) (M1.out.r.below hb1) h1 (HP.out.below hb) a0 a1
    rw [HV.out] at h
    exact h⟩
  have BW1 := Aside0.mk mb.bel
  clear mb
  go_wp2_with fail
  obtain ⟨Z, hZ⟩ : ∃ Z, List.replicate n (0 : Int) = Z := ⟨_, rfl⟩
  rw [hZ] at m1 HC
  clear hZ
  go_region_held3 (fun w' => Below w1.heap.size w1 w' ∧ Below W.heap.size W w')
    (first
      | with_reducible exact ⟨Below.drew (Below.refl _ _), Below.drew BW1.out⟩
      | with_reducible exact ⟨Below.drew (below_alloc (Below.refl _ _) _), Below.drew (below_alloc BW1.out _)⟩
      | (go_split_ands; exact ⟨below_on (by assumption) hb, below_on (by assumption) hb⟩)
      | (go_split_ands; exact ⟨below_alloc (by assumption) _, below_alloc (by assumption) _⟩))
    (first
      | (go_at_call 10; go_split_ands; (with_reducible refine (HK.out _ (by assumption) (by assumption)).mono ?_); rintro e w' ⟨rfl, hb⟩)
      | (go_at_call 11; (with_reducible refine (HC.out _ _ ?s1).mono ?_); (case s1 => first | exact blk_new _ _ | exact blk_below (w := (World.alloc w1 _).drew) (show (World.alloc w1 _).drew.heap[w1.heap.size]? = _ from blk_new w1 _) hb); rintro e w' ⟨rfl, hd⟩; have hb := hd.below; clear hd)
      | (go_at_call 8; go_split_ands; (with_reducible refine (bus_awake_calls _ (HP.out.below (by assumption))).mono ?_); rintro e w' ⟨rfl, hb⟩))
  all_goals go_wp2
  all_goals go_ret
  all_goals (go_split_ands; exact ⟨by simp, by assumption⟩)

theorem bus_classes (n a m : Int) (W : World) (_h : (Lit.int .i64 n).wf = true) (ha : (Lit.int .u32 a).wf = true) (_h2 : (Lit.int .i64 m).wf = true) (hp : Ports W) : Calls Tryd.prog 3 #[.int .i64 n, .int .u32 a, .int .i64 m] W fun e w' => e = .returned (.bool true) ∧ Below W.heap.size W w' := by
  simp [Lit.wf, IntKind.min, IntKind.max, IntKind.bits, IntKind.signed] at ha
  cases hR : (decide (64 ≤ n) && decide (n ≤ 65536) && (n % 64 == 0))
  · exact classes_no n a m W hp hR
  · simp at hR
    obtain ⟨⟨h0, h1⟩, h2⟩ := hR
    obtain ⟨k, rfl⟩ : ∃ k : Nat, n = k := ⟨n.toNat, by omega⟩
    exact classes_yes k a m W hp (by omega) (by omega) (by omega) ha.1 (by omega)
end Go.Proofs.YtonfblfbmnepoaaDoor
