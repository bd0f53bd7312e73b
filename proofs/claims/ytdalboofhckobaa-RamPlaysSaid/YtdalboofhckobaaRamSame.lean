/- The statements' step on a memory, whatever it is; are the memories the same? -/
import Derived.Test.YtdalboofhckobaaRamStepD
import Derived.Deep.LoopGhost
namespace Go.Proofs.Ytdalboofhckobaa
open Go Go.RowKit Go.Deep Go.Proofs.YtdalboofhckobaaW.PrintWords Go.Proofs.Ytdalboofhckobaa.QRamPlays Go.Proofs.Ytdalboofhckobaa.FQRamPlays
set_option linter.unusedVariables false
set_option linter.unusedSimpArgs false

theorem rstep_calls (w : World) {R BB BW BG n k : Nat} {l : List Int} {ws : List Bool} {gs : List Int} {v : Value} (kd a m x : Int) (ps : Option Addr) (ns cs : Nat) (bs : List Int) (H : RSame w R BB BW BG n k l ws gs v) (a0 : 0 ≤ a) (a1 : a < 4294967296) (x0 : 0 ≤ x) (x1 : x < 4294967296) (hsrc : VS (Value.int .u8) w (XR BB BW BG) ps cs bs) (hbl : bs.length = ns) (hbu : U8 bs) :
    Calls Try.prog 21 #[.pointer (some ⟨R, 0, none⟩), v, .agg #[.int .i64 kd, .int .u32 a, .int .i64 m, .int .u32 x, .slice ps ns cs]] w (RStepEnd w R BB BW BG n k) := by
  have hl := H.r.nl
  have hn := H.n0
  by_cases h1 : kd = 1
  · subst h1
    by_cases he : rasked n a m = 0
    · obtain ⟨j, mk, rfl, hmk, a0', hj, hjk, hr⟩ := ask0 he
      obtain ⟨r, hnum, hld, _, _⟩ := load_f l a j mk hmk a0' a1 hj (by omega) (by omega) H.u
      exact rstep1_yes w 0 a x ps ns cs H a0 a1 x0 x1 j mk r he a0' hj hjk (by omega) hnum hld
    · exact rstep1_no w 0 a m x ps ns cs H a0 a1 x0 x1 _ rfl (by simpa using he) (by simpa using he)
  · by_cases h2 : kd = 2
    · subst h2
      by_cases he : rasked n a m = 0
      · obtain ⟨j, mk, rfl, hmk, a0', hj, hjk, hr⟩ := ask0 he
        obtain ⟨bs', hb1, hb2, hbl', hbu'⟩ := bytes_f x mk hmk x0 x1
        have hp : (a - 2147483648) / 64 = ((j / 64 : Nat) : Int) := by omega
        have hpk : j / 64 < k := by omega
        have h3 := H.r.nw
        have h4 := H.r.ng
        exact rstep2_yes w 0 a x ps ns cs H a0 a1 x0 x1 j mk 0 he a0' hj hjk (by omega) (j / 64) bs' _ _ hr hp hpk (List.getElem?_eq_getElem (by omega)) (List.getElem?_eq_getElem (by omega)) hb1 hb2 hbl' hbu'
      · exact rstep2_no w 0 a m x ps ns cs H a0 a1 x0 x1 _ rfl (by simpa using he) (by simpa using he)
    · by_cases h3 : kd = 3
      · subst h3
        by_cases hp : 0 ≤ m ∧ m < (k : Int)
        · obtain ⟨p, rfl⟩ : ∃ p : Nat, m = p := ⟨m.toNat, by omega⟩
          exact rstep3_yes w 0 a x ps ns cs H a0 a1 x0 x1 p (by omega)
        · exact rstep3_no w 0 a m x ps ns cs H a0 a1 x0 x1 (by
            by_cases h0 : 0 ≤ m
            · have : ¬ m < (k : Int) := fun h => hp ⟨h0, h⟩
              simp [this]
            · simp [h0])
      · by_cases h4 : kd = 4
        · subst h4
          by_cases hns : ns = 0
          · exact rstep4_nil w 0 a m x ps ns cs H a0 a1 x0 x1 hns
          · have hns' : ((ns : Int) == 0) = false := by simpa using hns
            cases hr : rhas n a ns with
            | false => exact rstep4_no w 0 a m x ps ns cs H a0 a1 x0 x1 hr hns'
            | true =>
              obtain ⟨j, a0', hj, hjk, _⟩ := rhas_at hr
              exact rstep4_yes w 0 a m x ps ns cs H a0 a1 x0 x1 j bs a0' hj hjk hr hns' hbl hbu hsrc
        · exact rstep5 w kd a m x ps ns cs H a0 a1 x0 x1 (by simpa using h1) (by simpa using h2) (by simpa using h3) (by simpa using h4)
def postS (R B : Nat) (A1 A2 A3 : Option Addr) (c1 c2 c3 : Nat) (l : List Int) (ws : List Bool) (gs : List Int) (i : Nat) (v : Value) (w : World) : Prop :=
  match i with
  | 0 => v = .pointer (some ⟨R, 0, none⟩)
  | 1 => ∃ A c, v = .slice A l.length c ∧ VS (Value.int .u8) w (fun _ => False) A c l
  | 2 => v = .pointer (some ⟨B, 0, none⟩)
  | 3 => v = .slice A1 l.length c1
  | 4 => v = .bool true
  | 5 => v = .bool false
  | 6 => v = .bool false
  | 7 => v = .pointer (some ⟨R, 0, none⟩)
  | 8 => v = .bool false
  | 9 => v = .bool false
  | 10 => v = .bool false
  | 11 => v = .pointer (some ⟨R, 0, none⟩)
  | 12 => v = .pointer (some ⟨B, 2, none⟩)
  | 13 => v = .slice A3 gs.length c3
  | 14 => v = .int .i64 (gs.length : Int)
  | 15 => v = .bool false
  | 16 => v = .bool false
  | 17 => v = .bool false
  | 18 => v = .pointer (some ⟨R, 0, none⟩)
  | 19 => v = .int .u64 0
  | 20 => v = .bool false
  | 21 => v = .bool false
  | 22 => v = .bool false
  | 23 => v = .pointer (some ⟨R, 0, none⟩)
  | 24 => v = .pointer (some ⟨B, 2, none⟩)
  | 25 => v = .slice A3 gs.length c3
  | 26 => v = .int .i64 (gs.length : Int)
  | 27 => v = .int .u64 0
  | 28 => v = .bool false
  | 29 => v = .bool false
  | _ => True
theorem postS_below {R B : Nat} {A1 A2 A3 : Option Addr} {c1 c2 c3 : Nat} {l : List Int} {ws : List Bool} {gs : List Int} (j : Nat) (v : Value) (w w' : World) (h : postS R B A1 A2 A3 c1 c2 c3 l ws gs j v w) (k : Below w.heap.size w w') : postS R B A1 A2 A3 c1 c2 c3 l ws gs j v w' := by
  unfold postS at h ⊢
  split at h
  all_goals first
    | exact h
    | (obtain ⟨A, c, h1, h2⟩ := h; exact ⟨A, c, h1, h2.below k⟩)

def postT (R B p : Nat) (A2 A3 : Option Addr) (c2 c3 : Nat) (ws : List Bool) (gs : List Int) (ad2 ad3 : Addr) (b0 : Bool) (g0 : Int) (i : Nat) (v : Value) (w : World) : Prop :=
  match i with
  | 0 => v = .pointer (some ⟨R, 0, none⟩)
  | 1 => v = .int .i64 (p : Int)
  | 2 => v = .bool b0
  | 3 => v = .pointer (some ⟨B, 1, none⟩)
  | 4 => v = .slice A2 ws.length c2
  | 5 => v = .int .i64 (p : Int)
  | 6 => v = .pointer (some (ad2.add p))
  | 7 => v = .bool b0
  | 8 => v = .bool false
  | 9 => v = .bool false
  | 10 => v = .pointer (some ⟨R, 0, none⟩)
  | 11 => v = .int .i64 (p : Int)
  | 12 => v = .int .u64 g0
  | 13 => v = .pointer (some ⟨B, 2, none⟩)
  | 14 => v = .slice A3 gs.length c3
  | 15 => v = .int .i64 (p : Int)
  | 16 => v = .pointer (some (ad3.add p))
  | 17 => v = .int .u64 g0
  | 18 => v = .bool false
  | 19 => v = .bool false
  | _ => True
theorem postT_below {R B p : Nat} {A2 A3 : Option Addr} {c2 c3 : Nat} {ws : List Bool} {gs : List Int} {ad2 ad3 : Addr} {b0 : Bool} {g0 : Int} (j : Nat) (v : Value) (w w' : World) (h : postT R B p A2 A3 c2 c3 ws gs ad2 ad3 b0 g0 j v w) (k : Below w.heap.size w w') : postT R B p A2 A3 c2 c3 ws gs ad2 ad3 b0 g0 j v w' := by
  unfold postT at h ⊢
  split at h
  all_goals exact h
theorem RSame.below {w w' : World} {R BB BW BG n k : Nat} {l : List Int} {ws : List Bool} {gs : List Int} {v : Value} (h : RSame w R BB BW BG n k l ws gs v) (hb : Below w.heap.size w w') : RSame w' R BB BW BG n k l ws gs v := ⟨h.r.below hb, h.v.below hb, h.u, h.n0⟩
set_option maxRecDepth 100000 in
set_option maxHeartbeats 4000000 in
theorem rsame_calls (w : World) {R BB BW BG n k : Nat} {l : List Int} {ws : List Bool} {gs : List Int} {v : Value} (H : RSame w R BB BW BG n k l ws gs v) :
    Calls Try.prog 22 #[.pointer (some ⟨R, 0, none⟩), v] w fun e w' => e = .returned (.bool true) ∧ Below w.heap.size w w' := by
  have HN := Aside0.mk H.n0
  have HLN := Aside0.mk H.r.nl
  have HWG : Aside0 (ws.length = k ∧ gs.length = k) := ⟨⟨H.r.nw, H.r.ng⟩⟩
  have HSB : Aside0 (mimesisref01_SameBytes.f 70000 l l = some true) := ⟨same_self l (by have := H.r.nl; have := H.n0; omega) 70000 (by have := H.r.nl; have := H.n0; omega)⟩
  have H0 := Aside0.mk H
  obtain ⟨A1, c1, A2, c2, A3, c3, rfl, _, _, _⟩ := H.v
  clear H
  obtain ⟨B, hB⟩ : ∃ B, w.heap.size = B := ⟨_, rfl⟩
  have HBS := Aside0.mk hB
  go_enter Try.func22, Try.ntmps22
  go_upto_region 1 with fail
  clear hB
  generalize hW : World.alloc w _ = w1
  have HBX : Aside0 (w1.heap[B]? = some (.cells #[.slice A1 l.length c1, .slice A2 ws.length c2, .slice A3 gs.length c3] 41 (0, 0))) := ⟨by rw [← hW, ← HBS.out]; exact blk_new w _⟩
  have HW1 : Aside0 (Below w.heap.size w w1) := ⟨by rw [← hW]; exact below_alloc (Below.refl _ _) _⟩
  have HT := Aside0.mk (H0.out.below HW1.out)
  clear hW H0
  refine wp_region_rj (by kernel_rfl) 30 (fun W' => Below w1.heap.size w1 W') (fun x y => Below x.heap.size x y) (postS R B A1 A2 A3 c1 c2 c3 l ws gs) (by kernel_rfl) postS_below (Below.drew (Below.refl _ _)) ?step ?fin
  case step =>
    intro i o hi him b W' hinv hkeep hdef hpre K hK
    have HI := Aside0.mk hinv
    have HPRE := Aside0.mk hpre
    have HKEEP := Aside0.mk hkeep
    have HKK := Aside0.mk hK
    clear hinv hpre hkeep hK hdef
    obtain rfl | rfl | rfl | rfl | rfl | rfl | rfl | rfl | rfl | rfl | rfl | rfl | rfl | rfl | rfl | rfl | rfl | rfl | rfl | rfl | rfl | rfl | rfl | rfl | rfl | rfl | rfl | rfl | rfl | rfl : i = 0 ∨ i = 1 ∨ i = 2 ∨ i = 3 ∨ i = 4 ∨ i = 5 ∨ i = 6 ∨ i = 7 ∨ i = 8 ∨ i = 9 ∨ i = 10 ∨ i = 11 ∨ i = 12 ∨ i = 13 ∨ i = 14 ∨ i = 15 ∨ i = 16 ∨ i = 17 ∨ i = 18 ∨ i = 19 ∨ i = 20 ∨ i = 21 ∨ i = 22 ∨ i = 23 ∨ i = 24 ∨ i = 25 ∨ i = 26 ∨ i = 27 ∨ i = 28 ∨ i = 29 := by omega
    · cases hi
      have e0 : b.tmps.getD 0 undef = .pointer (some ⟨R, 0, none⟩) := HKEEP.out 0 (by kernel_rfl)
      rw [if_pos (by rfl)]
      go_simp
      exact HKK.out _ _ HI.out (Below.refl _ _) (by first | rfl | (simp; done))
    · cases hi
      have e6 : b.tmps.getD 6 undef = .pointer (some ⟨R, 0, none⟩) := HPRE.out 0 (by kernel_rfl) (by omega)
      rw [if_pos (by rfl)]
      go_simp
      refine (bytes_calls _ (HT.out.r.below HI.out) HN.out.2.1).mono ?_
      rintro e W2 ⟨rfl, hb, hbel⟩
      have hv : VS (Value.int .u8) W2 (fun _ => False) (some ⟨W'.heap.size, 0, none⟩) l.length l := VS.of_block hb (fun h => h) (by have := HLN.out; have := HN.out; omega)
      rw [← HLN.out]
      exact HKK.out _ _ (below_on HI.out hbel) hbel ⟨_, _, rfl, hv⟩
    · cases hi
      have e3 : b.tmps.getD 3 undef = .pointer (some ⟨B, 0, none⟩) := HKEEP.out 3 (by kernel_rfl)
      rw [if_pos (by rfl)]
      go_simp
      exact HKK.out _ _ HI.out (Below.refl _ _) (by first | rfl | (simp; done))
    · cases hi
      have e8 : b.tmps.getD 8 undef = .pointer (some ⟨B, 0, none⟩) := HPRE.out 2 (by kernel_rfl) (by omega)
      have c0 : W'.cell? ⟨B, 0, none⟩ = some (.slice A1 l.length c1) := (blk_cell (blk_below HBX.out HI.out) 0).trans rfl
      rw [if_pos (by rfl)]
      go_simp
      exact HKK.out _ _ HI.out (Below.refl _ _) (by first | rfl | (simp; done))
    · cases hi
      have e9 : b.tmps.getD 9 undef = .slice A1 l.length c1 := HPRE.out 3 (by kernel_rfl) (by omega)
      obtain ⟨A, c, e7, hv⟩ := HPRE.out 1 (by kernel_rfl) (by omega)
      have e7 : b.tmps.getD 7 undef = _ := e7
      have HV := Aside0.mk hv
      clear hv
      rw [if_pos (by rfl)]
      go_simp
      have VB := (vram_rows (HT.out.v.below HI.out)).1
      refine (mimesisref01_SameBytes.calls 70000 A c l A1 c1 l true _ HV.out.C HV.out.le VB.C VB.le HSB.out).mono ?_
      rintro e W2 ⟨rfl, d⟩
      exact HKK.out _ _ (below_on HI.out d.below) d.below rfl
    · cases hi
      have e10 : b.tmps.getD 10 undef = .bool true := HPRE.out 4 (by kernel_rfl) (by omega)
      rw [if_pos (by rfl)]
      go_simp
      exact HKK.out _ _ HI.out (Below.refl _ _) (by first | rfl | (simp; done))
    · cases hi
      have e11 : b.tmps.getD 11 undef = .bool false := HPRE.out 5 (by kernel_rfl) (by omega)
      rw [if_pos (by rfl)]
      go_simp
      exact HKK.out _ _ HI.out (Below.refl _ _) (by first | rfl | (simp; done))
    · cases hi
      have e12 : b.tmps.getD 12 undef = .bool false := HPRE.out 6 (by kernel_rfl) (by omega)
      have e0 : b.tmps.getD 0 undef = .pointer (some ⟨R, 0, none⟩) := HKEEP.out 0 (by kernel_rfl)
      rw [if_pos (wanted_yes rfl rfl rfl e12)]
      go_simp
      exact HKK.out _ _ HI.out (Below.refl _ _) (by first | rfl | (simp; done))
    · cases hi
      have e12 : b.tmps.getD 12 undef = .bool false := HPRE.out 6 (by kernel_rfl) (by omega)
      have e13 : b.tmps.getD 13 undef = .pointer (some ⟨R, 0, none⟩) := HPRE.out 7 (by kernel_rfl) (by omega)
      rw [if_pos (wanted_yes rfl rfl rfl e12)]
      go_simp
      refine (watched_no (-1) (HT.out.r.below HI.out) rfl).mono ?_
      rintro e W2 ⟨rfl, d⟩
      exact HKK.out _ _ (below_on HI.out d.below) d.below rfl
    · cases hi
      have e12 : b.tmps.getD 12 undef = .bool false := HPRE.out 6 (by kernel_rfl) (by omega)
      have e14 : b.tmps.getD 14 undef = .bool false := HPRE.out 8 (by kernel_rfl) (by omega)
      rw [if_pos (by rfl)]
      go_simp
      exact HKK.out _ _ HI.out (Below.refl _ _) (by first | rfl | (simp; done))
    · cases hi
      have e15 : b.tmps.getD 15 undef = .bool false := HPRE.out 9 (by kernel_rfl) (by omega)
      rw [if_pos (by rfl)]
      go_simp
      exact HKK.out _ _ HI.out (Below.refl _ _) (by first | rfl | (simp; done))
    · cases hi
      have e16 : b.tmps.getD 16 undef = .bool false := HPRE.out 10 (by kernel_rfl) (by omega)
      have e0 : b.tmps.getD 0 undef = .pointer (some ⟨R, 0, none⟩) := HKEEP.out 0 (by kernel_rfl)
      rw [if_pos (wanted_yes rfl rfl rfl e16)]
      go_simp
      exact HKK.out _ _ HI.out (Below.refl _ _) (by first | rfl | (simp; done))
    · cases hi
      have e16 : b.tmps.getD 16 undef = .bool false := HPRE.out 10 (by kernel_rfl) (by omega)
      have e3 : b.tmps.getD 3 undef = .pointer (some ⟨B, 0, none⟩) := HKEEP.out 3 (by kernel_rfl)
      rw [if_pos (wanted_yes rfl rfl rfl e16)]
      go_simp
      exact HKK.out _ _ HI.out (Below.refl _ _) (by first | rfl | (simp; done))
    · cases hi
      have e16 : b.tmps.getD 16 undef = .bool false := HPRE.out 10 (by kernel_rfl) (by omega)
      have e18 : b.tmps.getD 18 undef = .pointer (some ⟨B, 2, none⟩) := HPRE.out 12 (by kernel_rfl) (by omega)
      have c0 : W'.cell? ⟨B, 2, none⟩ = some (.slice A3 gs.length c3) := (blk_cell (blk_below HBX.out HI.out) 2).trans rfl
      rw [if_pos (wanted_yes rfl rfl rfl e16)]
      go_simp
      exact HKK.out _ _ HI.out (Below.refl _ _) (by first | rfl | (simp; done))
    · cases hi
      have e16 : b.tmps.getD 16 undef = .bool false := HPRE.out 10 (by kernel_rfl) (by omega)
      have e19 : b.tmps.getD 19 undef = .slice A3 gs.length c3 := HPRE.out 13 (by kernel_rfl) (by omega)
      rw [if_pos (wanted_yes rfl rfl rfl e16)]
      go_simp
      exact HKK.out _ _ HI.out (Below.refl _ _) (by first | rfl | (simp; done))
    · cases hi
      have e16 : b.tmps.getD 16 undef = .bool false := HPRE.out 10 (by kernel_rfl) (by omega)
      have e17 : b.tmps.getD 17 undef = .pointer (some ⟨R, 0, none⟩) := HPRE.out 11 (by kernel_rfl) (by omega)
      have e20 : b.tmps.getD 20 undef = .int .i64 (gs.length : Int) := HPRE.out 14 (by kernel_rfl) (by omega)
      rw [if_pos (wanted_yes rfl rfl rfl e16)]
      go_simp
      refine (watched_no (gs.length : Int) (HT.out.r.below HI.out) (by simp [HT.out.r.ng])).mono ?_
      rintro e W2 ⟨rfl, d⟩
      exact HKK.out _ _ (below_on HI.out d.below) d.below rfl
    · cases hi
      have e16 : b.tmps.getD 16 undef = .bool false := HPRE.out 10 (by kernel_rfl) (by omega)
      have e21 : b.tmps.getD 21 undef = .bool false := HPRE.out 15 (by kernel_rfl) (by omega)
      rw [if_pos (by rfl)]
      go_simp
      exact HKK.out _ _ HI.out (Below.refl _ _) (by first | rfl | (simp; done))
    · cases hi
      have e22 : b.tmps.getD 22 undef = .bool false := HPRE.out 16 (by kernel_rfl) (by omega)
      rw [if_pos (by rfl)]
      go_simp
      exact HKK.out _ _ HI.out (Below.refl _ _) (by first | rfl | (simp; done))
    · cases hi
      have e23 : b.tmps.getD 23 undef = .bool false := HPRE.out 17 (by kernel_rfl) (by omega)
      have e0 : b.tmps.getD 0 undef = .pointer (some ⟨R, 0, none⟩) := HKEEP.out 0 (by kernel_rfl)
      rw [if_pos (wanted_yes rfl rfl rfl e23)]
      go_simp
      exact HKK.out _ _ HI.out (Below.refl _ _) (by first | rfl | (simp; done))
    · cases hi
      have e23 : b.tmps.getD 23 undef = .bool false := HPRE.out 17 (by kernel_rfl) (by omega)
      have e24 : b.tmps.getD 24 undef = .pointer (some ⟨R, 0, none⟩) := HPRE.out 18 (by kernel_rfl) (by omega)
      rw [if_pos (wanted_yes rfl rfl rfl e23)]
      go_simp
      refine (gen_no (-1) (HT.out.r.below HI.out) rfl).mono ?_
      rintro e W2 ⟨rfl, d⟩
      exact HKK.out _ _ (below_on HI.out d.below) d.below rfl
    · cases hi
      have e23 : b.tmps.getD 23 undef = .bool false := HPRE.out 17 (by kernel_rfl) (by omega)
      have e25 : b.tmps.getD 25 undef = .int .u64 0 := HPRE.out 19 (by kernel_rfl) (by omega)
      rw [if_pos (wanted_yes rfl rfl rfl e23)]
      go_simp
      exact HKK.out _ _ HI.out (Below.refl _ _) (by first | rfl | (simp; done))
    · cases hi
      have e23 : b.tmps.getD 23 undef = .bool false := HPRE.out 17 (by kernel_rfl) (by omega)
      have e26 : b.tmps.getD 26 undef = .bool false := HPRE.out 20 (by kernel_rfl) (by omega)
      rw [if_pos (by rfl)]
      go_simp
      exact HKK.out _ _ HI.out (Below.refl _ _) (by first | rfl | (simp; done))
    · cases hi
      have e27 : b.tmps.getD 27 undef = .bool false := HPRE.out 21 (by kernel_rfl) (by omega)
      rw [if_pos (by rfl)]
      go_simp
      exact HKK.out _ _ HI.out (Below.refl _ _) (by first | rfl | (simp; done))
    · cases hi
      have e28 : b.tmps.getD 28 undef = .bool false := HPRE.out 22 (by kernel_rfl) (by omega)
      have e0 : b.tmps.getD 0 undef = .pointer (some ⟨R, 0, none⟩) := HKEEP.out 0 (by kernel_rfl)
      rw [if_pos (wanted_yes rfl rfl rfl e28)]
      go_simp
      exact HKK.out _ _ HI.out (Below.refl _ _) (by first | rfl | (simp; done))
    · cases hi
      have e28 : b.tmps.getD 28 undef = .bool false := HPRE.out 22 (by kernel_rfl) (by omega)
      have e3 : b.tmps.getD 3 undef = .pointer (some ⟨B, 0, none⟩) := HKEEP.out 3 (by kernel_rfl)
      rw [if_pos (wanted_yes rfl rfl rfl e28)]
      go_simp
      exact HKK.out _ _ HI.out (Below.refl _ _) (by first | rfl | (simp; done))
    · cases hi
      have e28 : b.tmps.getD 28 undef = .bool false := HPRE.out 22 (by kernel_rfl) (by omega)
      have e30 : b.tmps.getD 30 undef = .pointer (some ⟨B, 2, none⟩) := HPRE.out 24 (by kernel_rfl) (by omega)
      have c0 : W'.cell? ⟨B, 2, none⟩ = some (.slice A3 gs.length c3) := (blk_cell (blk_below HBX.out HI.out) 2).trans rfl
      rw [if_pos (wanted_yes rfl rfl rfl e28)]
      go_simp
      exact HKK.out _ _ HI.out (Below.refl _ _) (by first | rfl | (simp; done))
    · cases hi
      have e28 : b.tmps.getD 28 undef = .bool false := HPRE.out 22 (by kernel_rfl) (by omega)
      have e31 : b.tmps.getD 31 undef = .slice A3 gs.length c3 := HPRE.out 25 (by kernel_rfl) (by omega)
      rw [if_pos (wanted_yes rfl rfl rfl e28)]
      go_simp
      exact HKK.out _ _ HI.out (Below.refl _ _) (by first | rfl | (simp; done))
    · cases hi
      have e28 : b.tmps.getD 28 undef = .bool false := HPRE.out 22 (by kernel_rfl) (by omega)
      have e29 : b.tmps.getD 29 undef = .pointer (some ⟨R, 0, none⟩) := HPRE.out 23 (by kernel_rfl) (by omega)
      have e32 : b.tmps.getD 32 undef = .int .i64 (gs.length : Int) := HPRE.out 26 (by kernel_rfl) (by omega)
      rw [if_pos (wanted_yes rfl rfl rfl e28)]
      go_simp
      refine (gen_no (gs.length : Int) (HT.out.r.below HI.out) (by simp [HT.out.r.ng])).mono ?_
      rintro e W2 ⟨rfl, d⟩
      exact HKK.out _ _ (below_on HI.out d.below) d.below rfl
    · cases hi
      have e28 : b.tmps.getD 28 undef = .bool false := HPRE.out 22 (by kernel_rfl) (by omega)
      have e33 : b.tmps.getD 33 undef = .int .u64 0 := HPRE.out 27 (by kernel_rfl) (by omega)
      rw [if_pos (wanted_yes rfl rfl rfl e28)]
      go_simp
      exact HKK.out _ _ HI.out (Below.refl _ _) (by first | rfl | (simp; done))
    · cases hi
      have e28 : b.tmps.getD 28 undef = .bool false := HPRE.out 22 (by kernel_rfl) (by omega)
      have e34 : b.tmps.getD 34 undef = .bool false := HPRE.out 28 (by kernel_rfl) (by omega)
      rw [if_pos (by rfl)]
      go_simp
      exact HKK.out _ _ HI.out (Below.refl _ _) (by first | rfl | (simp; done))
  case fin =>
    intro b W' hinv hsz hdef hkeep hpost
    have e35 : b.tmps.getD 35 undef = .bool false := hpost 29 (by omega)
    have k0 : b.tmps.getD 0 undef = .pointer (some ⟨R, 0, none⟩) := hkeep 0 (by kernel_rfl)
    have k3 : b.tmps.getD 3 undef = .pointer (some ⟨B, 0, none⟩) := hkeep 3 (by kernel_rfl)
    refine rj_all (by rfl) (by kernel_rfl) ?_
    obtain ⟨sl, hlit, hsl⟩ := act_let b 63 hsz
    rw [hdef] at hlit
    rw [← hsl] at k0 k3 e35
    simp only [show List.range 63 = [0, 1, 2, 3, 4, 5, 6, 7, 8, 9, 10, 11, 12, 13, 14, 15, 16, 17, 18, 19, 20, 21, 22, 23, 24, 25, 26, 27, 28, 29, 30, 31, 32, 33, 34, 35, 36, 37, 38, 39, 40, 41, 42, 43, 44, 45, 46, 47, 48, 49, 50, 51, 52, 53, 54, 55, 56, 57, 58, 59, 60, 61, 62] from rfl, List.map_cons, List.map_nil, k0, k3, e35] at hlit
    rw [hlit]
    have BW2 := Aside0.mk (below_on HW1.out hinv)
    have T2 := Aside0.mk (HT.out.below hinv)
    have X2 := Aside0.mk (blk_below HBX.out hinv)
    clear hkeep hsz hdef k0 k3 e35 hsl hlit hpost hinv HT HBX HW1 HBS
    go_wp2_with fail
    obtain ⟨kk, hkk⟩ : ∃ kk, gs.length = kk := ⟨_, rfl⟩
    have hwk : ws.length = kk := by have := HWG.out; omega
    have hkm : kk ≤ 2000 := by have := HWG.out; have := HN.out; omega
    have HK := Aside0.mk (And.intro hkk hwk)
    clear hkk hwk
    go_loopg [5] (kk + 1) (fun g i wr => ∃ p : Nat, g + p = kk + 1 ∧ p ≤ kk ∧ i = .int .i64 (p : Int) ∧ Aside0 (RSame wr R BB BW BG n k l ws gs (.agg #[.slice A1 l.length c1, .slice A2 ws.length c2, .slice A3 gs.length c3])) ∧ Aside0 (wr.heap[B]? = some (.cells #[.slice A1 l.length c1, .slice A2 ws.length c2, .slice A3 gs.length c3] 41 (0, 0))) ∧ Aside0 (Below w.heap.size w wr))
    case atStart => exact ⟨0, by omega, by omega, rfl, T2, X2, BW2⟩
    case round =>
      obtain ⟨p, hgp, hpk, rfl, TR, XR', BR⟩ := hrel
      obtain ⟨wo, rfl⟩ : ∃ wo : World, wo = wr := ⟨_, rfl⟩
      clear T2 X2 BW2
      have q2 : wo.cell? ⟨B, 2, none⟩ = some (.slice A3 gs.length c3) := (blk_cell XR'.out 2).trans rfl
      rw [HK.out.1] at q2
      by_cases hlt : p < kk
      · have hlt' : ((p : Int) < (kk : Int)) = True := by simp; omega
        have hpw : ws[p]? = some (ws[p]'(by have := HK.out; omega)) := List.getElem?_eq_getElem _
        have hpg : gs[p]? = some (gs[p]'(by have := HK.out; omega)) := List.getElem?_eq_getElem _
        generalize ws[p]'_ = b0 at hpw
        generalize gs[p]'_ = g0 at hpg
        have VV := vram_rows TR.out.v
        obtain ⟨ad2, rfl, _⟩ := VV.2.1.get hpw
        obtain ⟨ad3, rfl, _⟩ := VV.2.2.get hpg
        have HPW := Aside0.mk hpw
        have HPG := Aside0.mk hpg
        clear VV hpw hpg
        go_wp2_with fail
        have hpw1 : (p : Int) < (ws.length : Int) := by have := HK.out; omega
        have hpg1 : (p : Int) < (gs.length : Int) := by have := HK.out; omega
        clear q2
        refine wp_region_rj (by kernel_rfl) 20 (fun W' => Below wo.heap.size wo W') (fun x y => Below x.heap.size x y) (postT R B p (some ad2) (some ad3) c2 c3 ws gs ad2 ad3 b0 g0) (by kernel_rfl) postT_below (Below.drew (Below.refl _ _)) ?step ?fin
        case step =>
          intro i o hi him b W' hinv hkeep hdef hpre K hK
          have HI := Aside0.mk hinv
          have HPRE := Aside0.mk hpre
          have HKEEP := Aside0.mk hkeep
          have HKK := Aside0.mk hK
          clear hinv hpre hkeep hK hdef
          obtain rfl | rfl | rfl | rfl | rfl | rfl | rfl | rfl | rfl | rfl | rfl | rfl | rfl | rfl | rfl | rfl | rfl | rfl | rfl | rfl : i = 0 ∨ i = 1 ∨ i = 2 ∨ i = 3 ∨ i = 4 ∨ i = 5 ∨ i = 6 ∨ i = 7 ∨ i = 8 ∨ i = 9 ∨ i = 10 ∨ i = 11 ∨ i = 12 ∨ i = 13 ∨ i = 14 ∨ i = 15 ∨ i = 16 ∨ i = 17 ∨ i = 18 ∨ i = 19 := by omega
          · cases hi
            have e0 : b.tmps.getD 0 undef = .pointer (some ⟨R, 0, none⟩) := HKEEP.out 0 (by kernel_rfl)
            rw [if_pos (by rfl)]
            go_simp
            exact HKK.out _ _ HI.out (Below.refl _ _) (by first | rfl | (simp; done))
          · cases hi
            have e5 : b.tmps.getD 5 undef = .int .i64 (p : Int) := HKEEP.out 5 (by kernel_rfl)
            rw [if_pos (by rfl)]
            go_simp
            exact HKK.out _ _ HI.out (Below.refl _ _) (by first | rfl | (simp; done))
          · cases hi
            have e43 : b.tmps.getD 43 undef = .pointer (some ⟨R, 0, none⟩) := HPRE.out 0 (by kernel_rfl) (by omega)
            have e44 : b.tmps.getD 44 undef = .int .i64 (p : Int) := HPRE.out 1 (by kernel_rfl) (by omega)
            rw [if_pos (by rfl)]
            go_simp
            refine (watched_yes p b0 (TR.out.r.below HI.out) HPW.out).mono ?_
            rintro e W2 ⟨rfl, d⟩
            exact HKK.out _ _ (below_on HI.out d.below) d.below rfl
          · cases hi
            have e3 : b.tmps.getD 3 undef = .pointer (some ⟨B, 0, none⟩) := HKEEP.out 3 (by kernel_rfl)
            rw [if_pos (by rfl)]
            go_simp
            exact HKK.out _ _ HI.out (Below.refl _ _) (by first | rfl | (simp; done))
          · cases hi
            have e46 : b.tmps.getD 46 undef = .pointer (some ⟨B, 1, none⟩) := HPRE.out 3 (by kernel_rfl) (by omega)
            have c0 : W'.cell? ⟨B, 1, none⟩ = some (.slice (some ad2) ws.length c2) := (blk_cell (blk_below XR'.out HI.out) 1).trans rfl
            rw [if_pos (by rfl)]
            go_simp
            exact HKK.out _ _ HI.out (Below.refl _ _) (by first | rfl | (simp; done))
          · cases hi
            have e5 : b.tmps.getD 5 undef = .int .i64 (p : Int) := HKEEP.out 5 (by kernel_rfl)
            rw [if_pos (by rfl)]
            go_simp
            exact HKK.out _ _ HI.out (Below.refl _ _) (by first | rfl | (simp; done))
          · cases hi
            have e47 : b.tmps.getD 47 undef = .slice (some ad2) ws.length c2 := HPRE.out 4 (by kernel_rfl) (by omega)
            have e48 : b.tmps.getD 48 undef = .int .i64 (p : Int) := HPRE.out 5 (by kernel_rfl) (by omega)
            rw [if_pos (by rfl)]
            go_simp
            exact HKK.out _ _ HI.out (Below.refl _ _) (by first | rfl | (simp; done))
          · cases hi
            have e49 : b.tmps.getD 49 undef = .pointer (some (ad2.add p)) := HPRE.out 6 (by kernel_rfl) (by omega)
            obtain ⟨ad2', ha2, hc2⟩ := (vram_rows (TR.out.v.below HI.out)).2.1.get HPW.out
            obtain rfl : ad2 = ad2' := Option.some.inj ha2
            rw [if_pos (by rfl)]
            go_simp
            exact HKK.out _ _ HI.out (Below.refl _ _) (by first | rfl | (simp; done))
          · cases hi
            have e50 : b.tmps.getD 50 undef = .bool b0 := HPRE.out 7 (by kernel_rfl) (by omega)
            have e45 : b.tmps.getD 45 undef = .bool b0 := HPRE.out 2 (by kernel_rfl) (by omega)
            rw [if_pos (by rfl)]
            go_simp
            exact HKK.out _ _ HI.out (Below.refl _ _) (by first | rfl | (simp; done))
          · cases hi
            have e51 : b.tmps.getD 51 undef = .bool false := HPRE.out 8 (by kernel_rfl) (by omega)
            rw [if_pos (by rfl)]
            go_simp
            exact HKK.out _ _ HI.out (Below.refl _ _) (by first | rfl | (simp; done))
          · cases hi
            have e52 : b.tmps.getD 52 undef = .bool false := HPRE.out 9 (by kernel_rfl) (by omega)
            have e0 : b.tmps.getD 0 undef = .pointer (some ⟨R, 0, none⟩) := HKEEP.out 0 (by kernel_rfl)
            rw [if_pos (wanted_yes rfl rfl rfl e52)]
            go_simp
            exact HKK.out _ _ HI.out (Below.refl _ _) (by first | rfl | (simp; done))
          · cases hi
            have e52 : b.tmps.getD 52 undef = .bool false := HPRE.out 9 (by kernel_rfl) (by omega)
            have e5 : b.tmps.getD 5 undef = .int .i64 (p : Int) := HKEEP.out 5 (by kernel_rfl)
            rw [if_pos (wanted_yes rfl rfl rfl e52)]
            go_simp
            exact HKK.out _ _ HI.out (Below.refl _ _) (by first | rfl | (simp; done))
          · cases hi
            have e52 : b.tmps.getD 52 undef = .bool false := HPRE.out 9 (by kernel_rfl) (by omega)
            have e53 : b.tmps.getD 53 undef = .pointer (some ⟨R, 0, none⟩) := HPRE.out 10 (by kernel_rfl) (by omega)
            have e54 : b.tmps.getD 54 undef = .int .i64 (p : Int) := HPRE.out 11 (by kernel_rfl) (by omega)
            rw [if_pos (wanted_yes rfl rfl rfl e52)]
            go_simp
            refine (gen_yes p g0 (TR.out.r.below HI.out) HPG.out).mono ?_
            rintro e W2 ⟨rfl, d⟩
            exact HKK.out _ _ (below_on HI.out d.below) d.below rfl
          · cases hi
            have e52 : b.tmps.getD 52 undef = .bool false := HPRE.out 9 (by kernel_rfl) (by omega)
            have e3 : b.tmps.getD 3 undef = .pointer (some ⟨B, 0, none⟩) := HKEEP.out 3 (by kernel_rfl)
            rw [if_pos (wanted_yes rfl rfl rfl e52)]
            go_simp
            exact HKK.out _ _ HI.out (Below.refl _ _) (by first | rfl | (simp; done))
          · cases hi
            have e52 : b.tmps.getD 52 undef = .bool false := HPRE.out 9 (by kernel_rfl) (by omega)
            have e56 : b.tmps.getD 56 undef = .pointer (some ⟨B, 2, none⟩) := HPRE.out 13 (by kernel_rfl) (by omega)
            have c0 : W'.cell? ⟨B, 2, none⟩ = some (.slice (some ad3) gs.length c3) := (blk_cell (blk_below XR'.out HI.out) 2).trans rfl
            rw [if_pos (wanted_yes rfl rfl rfl e52)]
            go_simp
            exact HKK.out _ _ HI.out (Below.refl _ _) (by first | rfl | (simp; done))
          · cases hi
            have e52 : b.tmps.getD 52 undef = .bool false := HPRE.out 9 (by kernel_rfl) (by omega)
            have e5 : b.tmps.getD 5 undef = .int .i64 (p : Int) := HKEEP.out 5 (by kernel_rfl)
            rw [if_pos (wanted_yes rfl rfl rfl e52)]
            go_simp
            exact HKK.out _ _ HI.out (Below.refl _ _) (by first | rfl | (simp; done))
          · cases hi
            have e52 : b.tmps.getD 52 undef = .bool false := HPRE.out 9 (by kernel_rfl) (by omega)
            have e57 : b.tmps.getD 57 undef = .slice (some ad3) gs.length c3 := HPRE.out 14 (by kernel_rfl) (by omega)
            have e58 : b.tmps.getD 58 undef = .int .i64 (p : Int) := HPRE.out 15 (by kernel_rfl) (by omega)
            rw [if_pos (wanted_yes rfl rfl rfl e52)]
            go_simp
            exact HKK.out _ _ HI.out (Below.refl _ _) (by first | rfl | (simp; done))
          · cases hi
            have e52 : b.tmps.getD 52 undef = .bool false := HPRE.out 9 (by kernel_rfl) (by omega)
            have e59 : b.tmps.getD 59 undef = .pointer (some (ad3.add p)) := HPRE.out 16 (by kernel_rfl) (by omega)
            obtain ⟨ad3', ha3, hc3⟩ := (vram_rows (TR.out.v.below HI.out)).2.2.get HPG.out
            obtain rfl : ad3 = ad3' := Option.some.inj ha3
            rw [if_pos (wanted_yes rfl rfl rfl e52)]
            go_simp
            exact HKK.out _ _ HI.out (Below.refl _ _) (by first | rfl | (simp; done))
          · cases hi
            have e52 : b.tmps.getD 52 undef = .bool false := HPRE.out 9 (by kernel_rfl) (by omega)
            have e60 : b.tmps.getD 60 undef = .int .u64 g0 := HPRE.out 17 (by kernel_rfl) (by omega)
            have e55 : b.tmps.getD 55 undef = .int .u64 g0 := HPRE.out 12 (by kernel_rfl) (by omega)
            rw [if_pos (wanted_yes rfl rfl rfl e52)]
            go_simp
            exact HKK.out _ _ HI.out (Below.refl _ _) (by first | rfl | (simp; done))
          · cases hi
            have e52 : b.tmps.getD 52 undef = .bool false := HPRE.out 9 (by kernel_rfl) (by omega)
            have e61 : b.tmps.getD 61 undef = .bool false := HPRE.out 18 (by kernel_rfl) (by omega)
            rw [if_pos (by rfl)]
            go_simp
            exact HKK.out _ _ HI.out (Below.refl _ _) (by first | rfl | (simp; done))
        case fin =>
          intro b W' hinv hsz hdef hkeep hpost
          have e62 : b.tmps.getD 62 undef = .bool false := hpost 19 (by omega)
          have k0 : b.tmps.getD 0 undef = .pointer (some ⟨R, 0, none⟩) := hkeep 0 (by kernel_rfl)
          have k3 : b.tmps.getD 3 undef = .pointer (some ⟨B, 0, none⟩) := hkeep 3 (by kernel_rfl)
          have k5 : b.tmps.getD 5 undef = .int .i64 (p : Int) := hkeep 5 (by kernel_rfl)
          have k1 : b.tmps.getD 1 undef = sl 1 := hkeep 1 (by kernel_rfl)
          have k2 : b.tmps.getD 2 undef = sl 2 := hkeep 2 (by kernel_rfl)
          have k6 : b.tmps.getD 6 undef = sl 6 := hkeep 6 (by kernel_rfl)
          have k7 : b.tmps.getD 7 undef = sl 7 := hkeep 7 (by kernel_rfl)
          have k8 : b.tmps.getD 8 undef = sl 8 := hkeep 8 (by kernel_rfl)
          have k9 : b.tmps.getD 9 undef = sl 9 := hkeep 9 (by kernel_rfl)
          have k10 : b.tmps.getD 10 undef = sl 10 := hkeep 10 (by kernel_rfl)
          have k11 : b.tmps.getD 11 undef = sl 11 := hkeep 11 (by kernel_rfl)
          have k12 : b.tmps.getD 12 undef = sl 12 := hkeep 12 (by kernel_rfl)
          have k13 : b.tmps.getD 13 undef = sl 13 := hkeep 13 (by kernel_rfl)
          have k14 : b.tmps.getD 14 undef = sl 14 := hkeep 14 (by kernel_rfl)
          have k15 : b.tmps.getD 15 undef = sl 15 := hkeep 15 (by kernel_rfl)
          have k16 : b.tmps.getD 16 undef = sl 16 := hkeep 16 (by kernel_rfl)
          have k17 : b.tmps.getD 17 undef = sl 17 := hkeep 17 (by kernel_rfl)
          have k18 : b.tmps.getD 18 undef = sl 18 := hkeep 18 (by kernel_rfl)
          have k19 : b.tmps.getD 19 undef = sl 19 := hkeep 19 (by kernel_rfl)
          have k20 : b.tmps.getD 20 undef = sl 20 := hkeep 20 (by kernel_rfl)
          have k21 : b.tmps.getD 21 undef = sl 21 := hkeep 21 (by kernel_rfl)
          have k22 : b.tmps.getD 22 undef = sl 22 := hkeep 22 (by kernel_rfl)
          have k23 : b.tmps.getD 23 undef = sl 23 := hkeep 23 (by kernel_rfl)
          have k24 : b.tmps.getD 24 undef = sl 24 := hkeep 24 (by kernel_rfl)
          have k25 : b.tmps.getD 25 undef = sl 25 := hkeep 25 (by kernel_rfl)
          have k26 : b.tmps.getD 26 undef = sl 26 := hkeep 26 (by kernel_rfl)
          have k27 : b.tmps.getD 27 undef = sl 27 := hkeep 27 (by kernel_rfl)
          have k28 : b.tmps.getD 28 undef = sl 28 := hkeep 28 (by kernel_rfl)
          have k29 : b.tmps.getD 29 undef = sl 29 := hkeep 29 (by kernel_rfl)
          have k30 : b.tmps.getD 30 undef = sl 30 := hkeep 30 (by kernel_rfl)
          have k31 : b.tmps.getD 31 undef = sl 31 := hkeep 31 (by kernel_rfl)
          have k32 : b.tmps.getD 32 undef = sl 32 := hkeep 32 (by kernel_rfl)
          have k33 : b.tmps.getD 33 undef = sl 33 := hkeep 33 (by kernel_rfl)
          have k34 : b.tmps.getD 34 undef = sl 34 := hkeep 34 (by kernel_rfl)
          have k35 : b.tmps.getD 35 undef = .bool false := hkeep 35 (by kernel_rfl)
          refine rj_all (by rfl) (by kernel_rfl) ?_
          obtain ⟨sl2, hlit, hsl⟩ := act_let b 63 hsz
          rw [hdef] at hlit
          rw [← hsl] at k0 k3 k5 e62 k1 k2 k6 k7 k8 k9 k10 k11 k12 k13 k14 k15 k16 k17 k18 k19 k20 k21 k22 k23 k24 k25 k26 k27 k28 k29 k30 k31 k32 k33 k34 k35
          simp only [show List.range 63 = [0, 1, 2, 3, 4, 5, 6, 7, 8, 9, 10, 11, 12, 13, 14, 15, 16, 17, 18, 19, 20, 21, 22, 23, 24, 25, 26, 27, 28, 29, 30, 31, 32, 33, 34, 35, 36, 37, 38, 39, 40, 41, 42, 43, 44, 45, 46, 47, 48, 49, 50, 51, 52, 53, 54, 55, 56, 57, 58, 59, 60, 61, 62] from rfl, List.map_cons, List.map_nil, k0, k3, k5, e62, k1, k2, k6, k7, k8, k9, k10, k11, k12, k13, k14, k15, k16, k17, k18, k19, k20, k21, k22, k23, k24, k25, k26, k27, k28, k29, k30, k31, k32, k33, k34, k35] at hlit
          rw [hlit]
          have BR2 := Aside0.mk (below_on BR.out hinv)
          have TR2 := Aside0.mk (TR.out.below hinv)
          have XR2 := Aside0.mk (blk_below XR'.out hinv)
          clear hkeep hsz hdef k0 k3 k5 e62 k1 k2 k6 k7 k8 k9 k10 k11 k12 k13 k14 k15 k16 k17 k18 k19 k20 k21 k22 k23 k24 k25 k26 k27 k28 k29 k30 k31 k32 k33 k34 k35 hsl hlit hpost hinv TR XR' BR
          go_wp2_with fail
          go_roundg (gk - 1)
          case measure => omega
          case rel => exact ⟨p + 1, by omega, by omega, by congr 1, TR2, XR2, BR2⟩
      · obtain rfl : p = kk := by omega
        have hlt' : ((p : Int) < (p : Int)) = False := by simp
        go_wp2_with fail
        go_ret
        exact ⟨rfl, BR.out⟩
end Go.Proofs.Ytdalboofhckobaa
