/- The statement BusHits. -/
import Derived.Test.YtonfblfbmnepoaaDoorBusE
import Derived.Test.YtonfblfbmnepoaaDoorRamF
namespace Go.Proofs.YtonfblfbmnepoaaDoor
open Go Go.RowKit Go.Proofs.YtonfblfbmnepoaaDoor.PBusNils Go.Proofs.YtonfblfbmnepoaaDoorW.PrintWords
set_option linter.unusedVariables false
set_option linter.unusedSimpArgs false

theorem hdev (a : Int) (ho : a % 4 = 0) (h : 0 ≤ rdev a) : (rdev a = 0 ∧ a = 1048576) ∨ (rdev a = 1 ∧ (a = 268435456 ∨ a = 268435460)) ∨ (2 ≤ rdev a ∧ a ∈ regs) := by
  have : (a = 1048576 ∨ a = 268435456 ∨ a = 268435460 ∨ a = 33554432 ∨ a = 33570816 ∨ a = 33570820 ∨ a = 33603576 ∨ a = 33603580) := by
    unfold rdev at h
    repeat' (first | omega | split at h)
  rcases this with h | h | h | h | h | h | h | h <;> subst h
  · exact .inl ⟨by decide, rfl⟩
  · exact .inr (.inl ⟨by decide, .inl rfl⟩)
  · exact .inr (.inl ⟨by decide, .inr rfl⟩)
  all_goals exact .inr (.inr ⟨by decide, by decide⟩)
theorem bytes_one (m : Nat) (hm : m = 1 ∨ m = 2 ∨ m = 4) : ∃ bs, bs.length = m ∧ word_Bytes.f 9 1 (m : Int) = some (bs, 0) := by
  rcases hm with rfl | rfl | rfl
  · exact ⟨[1], rfl, by kernel_rfl⟩
  · exact ⟨[1, 0], rfl, by kernel_rfl⟩
  · exact ⟨[1, 0, 0, 0], rfl, by kernel_rfl⟩
theorem rpage_num (n : Nat) (a m : Int) (h : rhas n a m = true) : ∃ j : Nat, a - 2147483648 = j ∧ (j : Int) + m ≤ n ∧ 1 ≤ m ∧ rpage n a = ((j / 64 : Nat) : Int) := by
  unfold rhas at h
  simp at h
  obtain ⟨⟨⟨h1, h2⟩, h3⟩, h4⟩ := h
  refine ⟨(a - 2147483648).toNat, by omega, by omega, h1, ?_⟩
  have hh : rhas n a 1 = true := by unfold rhas; simp; omega
  unfold rpage
  rw [if_pos hh]
  omega

/-- What a store leaves, of a bus of 256 bytes of which page p alone is watched. -/
def HitEnd (W : World) (B R C T BB BW BG p : Nat) (a : Int) (e : Ending) (w' : World) : Prop :=
  ∃ (hit : Bool) (e1 : Int) (off' : Bool) (code' : Int) (l' : List Int) (ws' : List Bool) (gs' : List Int), e = .returned (.tuple #[.bool hit, .int .i64 e1]) ∧ hit = (decide (e1 = 0) && decide (rpage 256 a = (p : Int))) ∧ IsBus w' B R C T off' code' ∧ IsRam w' R BB BW BG 256 4 l' ws' gs' ∧ Below W.heap.size W w' ∧ ws'[p]? = some (!hit)
theorem hits_store {W w : World} {B R C T BB BW BG : Nat} {X : Nat → Prop} {l : List Int} {gs : List Int} {q : List Int} {over : Bool} {out : List Int} {o m0 : Int} {s : Bool} {off : Bool} {code : Int} (p : Nat) (hp4 : p < 4) (a m : Int) (a0 : 0 ≤ a) (a1 : a < 4294967296) (hol : out.length ≤ 65536) (hP : Ports w)
    (h : MB W w B R C T BB BW BG 256 4 X l ((List.replicate 4 false).set p true) gs [] 0 q over out o m0 s off code) :
    Calls Tryd.prog 14 #[.pointer (some ⟨B, 0, none⟩), .int .u32 a, .int .i64 m, .int .u32 1, .int .u64 0] w (HitEnd W B R C T BB BW BG p a) := by
  have HA := h.ask hP a m a0 a1
  have hwp : ((List.replicate 4 false).set p true)[p]? = some true := by simp [hp4]
  by_cases he : basked 256 a m = 0
  · rw [he] at HA
    have hm : m = 1 ∨ m = 2 ∨ m = 4 := by
      by_cases hm : m = 1 ∨ m = 2 ∨ m = 4
      · exact hm
      · unfold basked at he; rw [if_neg hm] at he; omega
    have ho : a % m = 0 := by
      by_cases ho : a % m = 0
      · exact ho
      · unfold basked at he; rw [if_pos hm, if_neg ho] at he; omega
    have hc0 : bclass 256 a m ≠ 0 := by
      intro hc; unfold basked at he; rw [if_pos hm, if_pos ho, if_pos hc] at he; omega
    by_cases hr : rhas 256 a m = true
    · have hc : bclass 256 a m = 1 := by unfold bclass; rw [if_pos hm, if_pos ho, if_pos hr]
      rw [hc] at HA
      obtain ⟨j, hj, hjm, hm1, hpg⟩ := rpage_num 256 a m hr
      obtain ⟨mn, rfl⟩ : ∃ mn : Nat, m = mn := ⟨m.toNat, by omega⟩
      obtain ⟨bs, hbl, hbs⟩ := bytes_one mn (by omega)
      have hjk : j / 64 < 4 := by omega
      have hra : rasked 256 a mn = 0 := by unfold rasked; rw [if_pos hm, if_pos ho, if_pos hr]
      have hwl : ((List.replicate 4 false).set p true).length = 4 := by simp
      obtain ⟨hit, hhit⟩ : ∃ hit, ((List.replicate 4 false).set p true)[j / 64]? = some hit := ⟨_, List.getElem?_eq_getElem (by rw [hwl]; exact hjk)⟩
      obtain ⟨g, hg⟩ : ∃ g, gs[j / 64]? = some g := ⟨_, List.getElem?_eq_getElem (by rw [h.r.ng]; exact hjk)⟩
      have hhe : hit = decide (j / 64 = p) := by
        by_cases e : j / 64 = p
        · rw [e, hwp] at hhit; cases hhit; simp [e]
        · rw [List.getElem?_set_ne (fun h => e h.symm), List.getElem?_replicate, if_pos hjk] at hhit; cases hhit; simp [e]
      refine (bstore_mem w B R C T off code a mn 1 0 _ 0 hit (fun w'' => IsRam w'' R BB BW BG 256 4 _ (if hit = true then ((List.replicate 4 false).set p true).set (j / 64) false else (List.replicate 4 false).set p true) _ ∧ OnlyP (fun b => b = BB ∨ b = BW ∨ b = BG) w w'') h.b HA (fun w' hb => (store_yes w' a 1 j mn (j / 64) bs 0 g hit (h.r.below hb) (by omega) (by omega) a1 hra hj (by omega) (by omega) hpg hjk hhit hbl hg hbs).mono fun e w'' ⟨he, h1, h2⟩ => ⟨he, h1, (OnlyP.of_below hb).trans h2⟩)).mono ?_
      rintro e w' ⟨rfl, hir, hop⟩
      have hM := h.ram hir hop
      refine ⟨hit, 0, off, code, _, _, _, rfl, ?_, hM.b, hM.r, hM.bel, ?_⟩
      · rw [hhe, hpg]
        simp
        omega
      · cases hit
        · simp [hp4]
        · have e : j / 64 = p := by simpa using hhe
          simp [e, hp4]
    · have hpn : ¬ rpage 256 a = (p : Int) ∨ rhas 256 a 1 = true := by
        by_cases h1 : rhas 256 a 1 = true
        · exact .inr h1
        · left; unfold rpage; rw [if_neg h1]; omega
      have hc : m = 4 ∧ 0 ≤ rdev a := by
        unfold bclass at hc0; rw [if_pos hm, if_pos ho, if_neg hr] at hc0
        by_cases h4 : m = 4 ∧ 0 ≤ rdev a
        · exact h4
        · rw [if_neg h4] at hc0; exact absurd rfl hc0
      obtain ⟨rfl, hd⟩ := hc
      have hcl : bclass 256 a 4 = 2 := by unfold bclass; rw [if_pos hm, if_pos ho, if_neg hr, if_pos ⟨rfl, hd⟩]
      rw [hcl] at HA
      have hlow : rpage 256 a = -1 := by
        have : a < 2147483648 := by
          unfold rdev at hd
          repeat' (first | omega | split at hd)
        unfold rpage; rw [if_neg]; unfold rhas; simp; omega
      have fin : ∀ {w' : World} {X' : Nat → Prop} {q' : List Int} {over' : Bool} {out' : List Int} {o' m' : Int} {s' off' : Bool} {code' : Int}, MB W w' B R C T BB BW BG 256 4 X' l ((List.replicate 4 false).set p true) gs [] 0 q' over' out' o' m' s' off' code' → HitEnd W B R C T BB BW BG p a (.returned (.tuple #[.bool false, .int .i64 0])) w' := fun hM =>
        ⟨false, 0, _, _, _, _, _, rfl, by rw [hlow]; simp, hM.b, hM.r, hM.bel, by rw [hwp]; rfl⟩
      rcases hdev a ho hd with ⟨hv, rfl⟩ | ⟨hv, har⟩ | ⟨hv, har⟩
      · rw [hv] at HA
        exact (bstore_off w B R C T off code 1048576 4 1 0 h.b HA).mono fun e w' ⟨he, hi, hon⟩ => he ▸ fin (h.offed hi hon)
      · rw [hv] at HA
        rcases har with rfl | rfl
        · exact (bstore_con w B R C T off code 268435456 4 1 0 0 0 (fun w'' => ∃ X', KC W w'' X' C [] 0 q over (out ++ [1 % 256]) ∧ (∀ i, X' i → X i ∨ w.heap.size ≤ i) ∧ OnlyP X w w'') h.b HA (.inl ⟨rfl, rfl⟩) (fun w' hb => (kc_write0 1 (h.c.below hb) (by omega) (by omega) hol).mono fun e w'' ⟨he, ⟨X', h1, h2, h3⟩, ho⟩ => ⟨he, X', h1, fun i hi => (h3 i hi).imp id (fun h => Nat.le_trans hb.size h), (OnlyP.of_below hb).trans ho⟩)).mono fun e w' ⟨he, X', k1, k2, k3⟩ => he ▸ fin (h.con k1 k3 k2)
        · exact (bstore_con w B R C T off code 268435460 4 1 0 4 0 (fun w'' => KC W w'' X C [] 0 q false out ∧ OnlyP X w w'') h.b HA (.inr ⟨rfl, rfl⟩) (fun w' hb => (kc_write4 1 (h.c.below hb)).mono fun e w'' ⟨he, h1, ho⟩ => ⟨he, h1, (OnlyP.of_below hb).trans ho⟩)).mono fun e w' ⟨he, k1, k3⟩ => he ▸ fin (h.con k1 k3 (fun i hi => .inl hi))
      · exact (bstore_tim w B R C T off code a 4 1 0 _ 0 (fun w'' => IsT w'' T _ _ _ ∧ Only T w w'') h.b HA (beq_eq_false_iff_ne.2 (by omega)) (beq_eq_false_iff_ne.2 (by omega)) (fun w' hb => (twrite_calls w' T o m0 a 1 0 s (h.t.below hb) har (by omega) (by omega)).mono fun e w'' ⟨he, h1, ho⟩ => ⟨he, h1, (Only.of_below hb).trans ho⟩)).mono fun e w' ⟨he, k1, k3⟩ => he ▸ fin (h.tim k1 k3)
  · refine (bstore_no w B a m 1 0 _ _ _ HA (by simpa using he)).mono ?_
    rintro e w' ⟨rfl, hb⟩
    have hM := h.below hb
    exact ⟨false, _, _, _, _, _, _, rfl, by simp [he], hM.b, hM.r, hM.bel, by rw [hwp]; rfl⟩

set_option maxHeartbeats 2000000 in
set_option maxRecDepth 100000 in
theorem bus_hits (a m g : Int) (W : World) (ha : (Lit.int .u32 a).wf = true) (_h2 : (Lit.int .i64 m).wf = true) (hg : (Lit.int .u8 g).wf = true) (hP : Ports W) : Calls Tryd.prog 4 #[.int .u32 a, .int .i64 m, .int .u8 g] W fun e w' => e = .returned (.bool true) ∧ Below W.heap.size W w' := by
  simp [Lit.wf, IntKind.min, IntKind.max, IntKind.bits, IntKind.signed] at ha hg
  obtain ⟨p, hp, hp4⟩ : ∃ p : Nat, (wrap64 g).tmod 4 = p ∧ p < 4 := by
    have e : wrap64 g = g := by unfold wrap64; omega
    rw [e, Int.tmod_eq_emod_of_nonneg hg.1]
    exact ⟨(g % 4).toNat, by omega, by omega⟩
  have HP := Aside0.mk hP
  have HM := Aside0.mk (made_calls W W (Below.refl _ _) 256 (by omega) (by omega) (by omega) none 0 [] (by intro i p h; simp at h) (by simp) (by simp) (by simp) (by intro i p p' h; simp at h))
  have HA := Aside0.mk ha
  clear hP ha hg
  go_enter Tryd.func4, Tryd.ntmps4
  go_wp2_with fail
  refine HM.out.mono ?_
  rintro e w1 ⟨B, R, C, T, BB, BW, BG, X, rfl, mb, _⟩
  have M1 := Aside0.mk mb
  clear mb HM
  go_wp2_with fail
  refine (bram_calls _ M1.out.b).mono ?_
  rintro e w2 ⟨rfl, d2⟩
  have M2 := Aside0.mk (M1.out.below d2.below)
  clear d2 M1
  have HW := Aside0.mk (watch_yes p M2.out.r hp4)
  go_wp2_with fail
  refine HW.out.mono ?_
  rintro e w3 ⟨rfl, i3, o3⟩
  have M3 := Aside0.mk (M2.out.ram i3 (.of_only o3 (.inr (.inl rfl))))
  clear i3 o3 M2 HW
  have HS := Aside0.mk (hits_store p hp4 a m HA.out.1 (by have := HA.out.2; omega) (by simp) (HP.out.below M3.out.bel) M3.out)
  go_wp2_with fail
  refine HS.out.mono ?_
  rintro e w4 ⟨hit, e1, off', code', l', ws', gs', rfl, hh, ib, ir, bb, hws⟩
  have IB := Aside0.mk ib
  have IR := Aside0.mk ir
  have B4 := Aside0.mk bb
  have HH := Aside0.mk hh
  have HWS := Aside0.mk hws
  clear ib ir bb hh hws HS M3
  have HPG := Aside0.mk (fun w' (d : Drawn0 w4 w') => page_calls w' a (IR.out.drawn d) (by omega) HA.out.1 (by have := HA.out.2; omega))
  have HWT := Aside0.mk (fun w' (d : Drawn0 w4 w') => watched_yes p (!hit) (IR.out.drawn d) HWS.out)
  have HRM := Aside0.mk (fun w' (d : Drawn0 w4 w') => bram_calls w' (IB.out.drawn d))
  obtain ⟨q, hq⟩ : ∃ q, rpage 256 a = q := ⟨_, rfl⟩
  rw [hq] at HPG
  have hh := HH.out
  rw [hq] at hh
  clear hq HH
  by_cases he : e1 = 0
  · subst he
    by_cases hqp : q = p
    · subst hqp
      obtain rfl : hit = true := by simpa using hh
      clear hh
      go_wp2_with fail
      refine (HRM.out _ (Drawn0.refl _)).mono ?_
      rintro e w5 ⟨rfl, d5⟩
      have D5 := Aside0.mk d5
      clear d5
      go_wp2_with fail
      refine (HPG.out _ D5.out).mono ?_
      rintro e w6 ⟨rfl, d6⟩
      have D6 := Aside0.mk (drawn_trans D5.out d6)
      clear d6
      go_wp2_with fail
      refine (HRM.out _ D6.out).mono ?_
      rintro e w7 ⟨rfl, d7⟩
      have D7 := Aside0.mk (drawn_trans D6.out d7)
      clear d7
      go_wp2_with fail
      refine (HWT.out _ D7.out).mono ?_
      rintro e w8 ⟨rfl, d8⟩
      have B8 := Aside0.mk (drawn_below' (drawn_below' B4.out D7.out) d8)
      clear d8
      go_wp2_with fail
      refine (bus_awake_calls _ (HP.out.below B8.out)).mono ?_
      rintro e w9 ⟨rfl, b9⟩
      have B9 := Aside0.mk (below_on B8.out b9)
      clear b9
      go_wp2_with fail
      go_ret
      exact ⟨by simp, B9.out⟩
    · obtain rfl : hit = false := by simpa [hqp] using hh
      have hqb : (q == (p : Int)) = false := beq_eq_false_iff_ne.2 hqp
      clear hh hqp
      go_wp2_with fail
      refine (HRM.out _ (Drawn0.refl _)).mono ?_
      rintro e w5 ⟨rfl, d5⟩
      have D5 := Aside0.mk d5
      clear d5
      go_wp2_with fail
      refine (HPG.out _ D5.out).mono ?_
      rintro e w6 ⟨rfl, d6⟩
      have D6 := Aside0.mk (drawn_trans D5.out d6)
      clear d6
      go_wp2_with fail
      refine (HRM.out _ D6.out).mono ?_
      rintro e w7 ⟨rfl, d7⟩
      have D7 := Aside0.mk (drawn_trans D6.out d7)
      clear d7
      go_wp2_with fail
      refine (HWT.out _ D7.out).mono ?_
      rintro e w8 ⟨rfl, d8⟩
      have B8 := Aside0.mk (drawn_below' (drawn_below' B4.out D7.out) d8)
      clear d8
      go_wp2_with fail
      refine (bus_awake_calls _ (HP.out.below B8.out)).mono ?_
      rintro e w9 ⟨rfl, b9⟩
      have B9 := Aside0.mk (below_on B8.out b9)
      clear b9
      go_wp2_with fail
      go_ret
      exact ⟨by simp, B9.out⟩
  · obtain rfl : hit = false := by simpa [he] using hh
    have heb : (e1 == 0) = false := beq_eq_false_iff_ne.2 he
    clear hh he
    go_wp2_with fail
    refine (HRM.out _ (Drawn0.refl _)).mono ?_
    rintro e w7 ⟨rfl, d7⟩
    have D7 := Aside0.mk d7
    clear d7
    go_wp2_with fail
    refine (HWT.out _ D7.out).mono ?_
    rintro e w8 ⟨rfl, d8⟩
    have B8 := Aside0.mk (drawn_below' (drawn_below' B4.out D7.out) d8)
    clear d8
    go_wp2_with fail
    refine (bus_awake_calls _ (HP.out.below B8.out)).mono ?_
    rintro e w9 ⟨rfl, b9⟩
    have B9 := Aside0.mk (below_on B8.out b9)
    clear b9
    go_wp2_with fail
    go_ret
    exact ⟨by simp, B9.out⟩
end Go.Proofs.YtonfblfbmnepoaaDoor
