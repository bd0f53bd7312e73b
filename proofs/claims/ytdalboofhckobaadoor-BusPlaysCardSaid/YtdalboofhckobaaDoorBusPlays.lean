/- The walk of BusPlays. (PK=QBusPlays) -/
import Derived.Test.YtdalboofhckobaaDoorBusStep
import Derived.Laws.Tables
import Derived.Test.YtdalboofhckobaaDoorRegInvF
import Derived.Test.YtdalboofhckobaaDoorConRight
import Derived.Deep.LoopGhost
namespace Go.Proofs.YtdalboofhckobaaDoor
open Go Go.RowKit Go.Deep Go.Proofs.YtdalboofhckobaaDoorW.PrintWords Go.Proofs.YtdalboofhckobaaDoor.QBusPlays Go.Proofs.YtdalboofhckobaaDoor.FQBusPlays
set_option linter.unusedVariables false
set_option linter.unusedSimpArgs false

theorem wp_build_eq {P : Program} {o : Oper} {a : Act} {w : World} {K : Act → World → Prop} {Q : Exit → Act → World → Prop} (t : TypeId) (parts : Array (Nat × Operand)) (ho : o.op = .build t parts) (cells : Array Value)
    (hc : P.built t (parts.map fun (i, x) => (i, a.eval x)).toList = some cells) (h : K (a.put o.dst (.agg cells)) w) : o.wp P a w K Q := by
  unfold Oper.wp execOp
  simp only [ho, Sem.run_bind, run_build w t _ cells hc, Result.andThen_ok]
  exact h
set_option maxRecDepth 100000 in
set_option maxHeartbeats 2000000 in
/-- What calls, of the program's bus. -/
theorem bcalls_calls {W w : World} {B R C T BB BW BG nr k : Nat} {X : Nat → Prop} {l : List Int} {ws : List Bool} {gs : List Int} {al : List (Int × Int)} {came : Nat} {q : List Int} {over : Bool} {out : List Int} {o m : Int} {s : Bool} {off : Bool} {code : Int} (t : Int) (h : MB W w B R C T BB BW BG nr k X l ws gs al came q over out o m s off code) : Calls Tryd.prog 23 #[.pointer (some ⟨B, 0, none⟩), .int .u64 t] w fun e w' => e = .returned (.int .u32 (bcallsv s (tup t o m) (decide (0 < q.length)))) ∧ Below w.heap.size w w' := by
  have H := Aside0.mk h
  have b2 := h.b.c2
  have b1 := h.b.c1
  have t2 := h.t.c2
  have HU := Aside0.mk (fun w' (d : Below w.heap.size w w') => tup_calls w' T o m t s (h.t.below d))
  have HR := Aside0.mk (fun w' (d : Below w.heap.size w w') => kc_ready (h.c.below d))
  have B0 : Aside0 (Below w.heap.size w w) := ⟨Below.refl _ _⟩
  obtain ⟨u, hu⟩ : ∃ u, tup t o m = u := ⟨_, rfl⟩
  obtain ⟨r, hr⟩ : ∃ r, decide (0 < q.length) = r := ⟨_, rfl⟩
  rw [hu] at HU ⊢
  rw [hr] at HR ⊢
  clear h hu hr
  go_enter Tryd.func23, Tryd.ntmps23
  cases s <;> cases u <;> cases r <;> (
    go_wp2_with fail
    refine (HU.out _ B0.out).mono ?_
    rintro e w1 ⟨rfl, d1⟩
    have B1 := Aside0.mk d1.below
    have b1' : w1.cell? ⟨B, 1, none⟩ = some (.pointer (some ⟨C, 0, none⟩)) := pw_cell_below d1.below b1
    clear d1
    go_wp2_with fail
    refine (HR.out _ B1.out).mono ?_
    rintro e w2 ⟨rfl, d2⟩
    have B2 := Aside0.mk (below_on B1.out d2.below)
    clear d2
    go_wp2_with fail
    (try (have hbit : Go.bits .or .u32 0 8 = 8 := by kernel_rfl); (have hbit2 : Go.bits .or .u32 0 128 = 128 := by kernel_rfl))
    go_ret
    first | exact ⟨rfl, B2.out⟩ | exact ⟨by first | rfl | kernel_rfl, B2.out⟩)
theorem rcalls_f (l : List Int) (al : List S90) (came : Int) (q : List Int) (over : Bool) (out : List Int) (o m : Int) (s off : Bool) (code t : Int) : mimesisref14_Calls.f 1 l al came q over out o m s off code t = some (bcallsv s (tup t o m) (decide (0 < q.length))) := by
  have hl : ((q.length : Int) > 0) ↔ 0 < q.length := by omega
  unfold mimesisref14_Calls.f
  cases s <;> simp only [Bool.false_eq_true, if_false, if_true] <;> rw [mimesisref14_Calls.j0, ref_up, Option.bind_some] <;> cases tup t o m <;> by_cases h : 0 < q.length <;> simp [h, hl, bcallsv]
def postB (nr n B R C T : Nat) (Ab Ar Ao A : Option Addr) (nl cb nq cr no co len cap : Nat) (came : Nat) (l q out : List Int) (over s off : Bool) (o m code t cv : Int) (i : Nat) (v : Value) (w : World) : Prop :=
  match i with
  | 0 => v = .int .u32 code
  | 1 => v = .pointer (some ⟨n, 10, none⟩)
  | 2 => v = .int .u32 code
  | 3 => v = .bool true
  | 4 => v = .bool true
  | 5 => v = .bool off
  | 6 => v = .pointer (some ⟨n, 9, none⟩)
  | 7 => v = .bool off
  | 8 => v = .bool true
  | 9 => v = .bool true
  | 10 => v = .bool true
  | 11 => v = .pointer (some ⟨B, 0, none⟩)
  | 12 => v = .int .u64 t
  | 13 => v = .int .u32 cv
  | 14 => v = .agg #[.slice Ab nl cb, .slice A len cap, .int .i64 (came : Int), .slice Ar nq cr, .bool over, .slice Ao no co, .int .u64 o, .int .u64 m, .bool s, .bool off, .int .u32 code]
  | 15 => v = .int .u64 t
  | 16 => v = .int .u32 cv
  | 17 => v = .bool true
  | 18 => v = .bool true
  | 19 => v = .bool true
  | 20 => v = .pointer (some ⟨B, 0, none⟩)
  | 21 => v = .pointer (some ⟨R, 0, none⟩)
  | 22 => ∃ A' c', v = .slice A' nl c' ∧ l.length ≤ c' ∧ (Kd.int .u8).C w A' l.length l
  | 23 => v = .pointer (some ⟨n, 0, none⟩)
  | 24 => v = .slice Ab nl cb
  | 25 => v = .bool true
  | 26 => v = .bool true
  | 27 => v = .bool true
  | 28 => v = .pointer (some ⟨B, 0, none⟩)
  | 29 => v = .pointer (some ⟨C, 0, none⟩)
  | 30 => ∃ A' c', v = .slice A' no c' ∧ out.length ≤ c' ∧ (Kd.int .u8).C w A' out.length out
  | 31 => v = .pointer (some ⟨n, 1, none⟩)
  | 32 => v = .pointer (some ⟨n, 5, none⟩)
  | 33 => v = .slice Ao no co
  | 34 => v = .bool true
  | 35 => v = .bool true
  | 36 => v = .bool true
  | 37 => v = .pointer (some ⟨B, 0, none⟩)
  | 38 => v = .pointer (some ⟨C, 0, none⟩)
  | 39 => ∃ A' c', v = .slice A' nq c' ∧ q.length ≤ c' ∧ (Kd.int .u8).C w A' q.length q
  | 40 => v = .pointer (some ⟨n, 1, none⟩)
  | 41 => v = .pointer (some ⟨n, 3, none⟩)
  | 42 => v = .slice Ar nq cr
  | 43 => v = .bool true
  | 44 => v = .bool true
  | 45 => v = .bool true
  | 46 => v = .pointer (some ⟨T, 0, none⟩)
  | 47 => v = .pointer (some ⟨T, 0, none⟩)
  | 48 => v = .agg #[.int .u64 o, .int .u64 m, .bool s]
  | 49 => v = .pointer (some ⟨n, 6, none⟩)
  | 50 => v = .pointer (some ⟨n, 6, none⟩)
  | 51 => v = .int .u64 o
  | 52 => v = .pointer (some ⟨n, 6, none⟩)
  | 53 => v = .pointer (some ⟨n, 7, none⟩)
  | 54 => v = .int .u64 m
  | 55 => v = .pointer (some ⟨n, 6, none⟩)
  | 56 => v = .pointer (some ⟨n, 8, none⟩)
  | 57 => v = .bool s
  | 58 => v = .agg #[.int .u64 o, .int .u64 m, .bool s]
  | 59 => v = .bool true
  | 60 => v = .bool true
  | _ => True
theorem postB_below {nr n B R C T : Nat} {Ab Ar Ao A : Option Addr} {nl cb nq cr no co len cap : Nat} {came : Nat} {l q out : List Int} {over s off : Bool} {o m code t cv : Int} (j : Nat) (v : Value) (w w' : World) (h : postB nr n B R C T Ab Ar Ao A nl cb nq cr no co len cap came l q out over s off o m code t cv j v w) (k : Below w.heap.size w w') : postB nr n B R C T Ab Ar Ao A nl cb nq cr no co len cap came l q out over s off o m code t cv j v w' := by
  unfold postB at h ⊢
  split at h
  all_goals first
    | exact h
    | (obtain ⟨A, c, h1, h2, h3⟩ := h; exact ⟨A, c, h1, h2, Kd.C_below h3 k⟩)

set_option maxRecDepth 100000 in
set_option maxHeartbeats 8000000 in
theorem bsame_calls {W w : World} {B R C T BB BW BG nr k : Nat} {X : Nat → Prop} {l : List Int} {ws : List Bool} {gs : List Int} {al : List (Int × Int)} {came : Nat} {q : List Int} {over : Bool} {out : List Int} {o m : Int} {s : Bool} {off : Bool} {code : Int} {A : Option Addr} {len cap : Nat} {v : Value} {Y : Nat → Prop} (t : Int) (h : MB W w B R C T BB BW BG nr k X l ws gs al came q over out o m s off code) (hV : VBus w Y A len cap v l came q over out o m s off code) (ho : out.length ≤ 65536) (lal : List S90) (hal : ∀ w', Below w.heap.size w w' → Kd.C k90 w' A lal.length lal) (haln : lal.length = len) (halc : len ≤ cap) :
    Calls Tryd.prog 29 #[.pointer (some ⟨B, 0, none⟩), v, .int .u64 t] w fun e w' => e = .returned (.bool true) ∧ Below w.heap.size w w' := by
  obtain ⟨Ab, cb, Ar, cr, Ao, co, rfl, h1, h2, h3⟩ := hV
  have H0 := Aside0.mk h
  have HV0 := Aside0.mk (And.intro h1 (And.intro h2 h3))
  have HLO := Aside0.mk ho
  have HLQ : Aside0 (q.length ≤ 16) := ⟨h.c.q16⟩
  have HLL : Aside0 (l.length ≤ 65536) := ⟨by have := h.r.nl; have := h.n0; omega⟩
  have HAL0 := Aside0.mk hal
  have HALN := Aside0.mk haln
  have HAL2 : Aside0 (lal.length ≤ cap) := ⟨by omega⟩
  obtain ⟨cv, hcv⟩ : ∃ cv, bcallsv s (tup t o m) (decide (0 < q.length)) = cv := ⟨_, rfl⟩
  have HCV := Aside0.mk hcv
  obtain ⟨nl, hnl⟩ : ∃ nl, l.length = nl := ⟨_, rfl⟩
  obtain ⟨nq, hnq⟩ : ∃ nq, q.length = nq := ⟨_, rfl⟩
  obtain ⟨no, hno⟩ : ∃ no, out.length = no := ⟨_, rfl⟩
  rw [hnl, hnq, hno]
  have HN := Aside0.mk (And.intro hnl (And.intro hnq hno))
  have hbx := Aside0.mk (blk_new w (.cells #[.slice Ab nl cb, .slice A len cap, .int .i64 (came : Int), .slice Ar nq cr, .bool over, .slice Ao no co, .int .u64 o, .int .u64 m, .bool s, .bool off, .int .u32 code] 65))
  have hbb := Aside0.mk (below_alloc (Below.refl w.heap.size w) (.cells #[.slice Ab nl cb, .slice A len cap, .int .i64 (came : Int), .slice Ar nq cr, .bool over, .slice Ao no co, .int .u64 o, .int .u64 m, .bool s, .bool off, .int .u32 code] 65))
  clear h h1 h2 h3 ho hal haln halc hcv hnl hnq hno
  obtain ⟨n, hn⟩ : ∃ n, w.heap.size = n := ⟨_, rfl⟩
  have HNS := Aside0.mk hn
  clear hn
  go_enter Tryd.func29, Tryd.ntmps29
  go_upto_region 1 with fail
  generalize hW : World.alloc w _ = w0
  rw [hW] at hbx hbb
  clear hW
  have hNS := HNS.out
  rw [hNS] at hbx ⊢
  clear hNS
  have HM1 := Aside0.mk (H0.out.below hbb.out)
  go_wp2_with fail
  refine (boff_calls _ HM1.out.b).mono ?_
  rintro e w1 ⟨rfl, d⟩
  have HM2 := Aside0.mk (HM1.out.below d.below)
  have X2 := Aside0.mk (blk_below hbx.out d.below)
  have B2 := Aside0.mk (below_on hbb.out d.below)
  clear d HM1 hbx hbb
  go_wp2_with fail
  refine (btim_calls _ HM2.out.b).mono ?_
  rintro e w2 ⟨rfl, d⟩
  have HM0 := Aside0.mk (HM2.out.below d.below)
  have HBX := Aside0.mk (blk_below X2.out d.below)
  have B3 := Aside0.mk (below_on B2.out d.below)
  have V1 := Aside0.mk (HV0.out.1.below B3.out)
  have V2 := Aside0.mk (HV0.out.2.1.below B3.out)
  have V3 := Aside0.mk (HV0.out.2.2.below B3.out)
  have HAL : Aside0 (∀ w', Below w2.heap.size w2 w' → Kd.C k90 w' A lal.length lal) := ⟨fun w' hw => HAL0.out _ (below_on B3.out hw)⟩
  clear d HM2 X2 B2 H0 HV0 HAL0
  go_wp2_with fail
  refine wp_region_rj (by kernel_rfl) 61 (fun W' => Below w2.heap.size w2 W') (fun x y => Below x.heap.size x y) (postB nr n B R C T Ab Ar Ao A nl cb nq cr no co len cap came l q out over s off o m code t cv) (by kernel_rfl) postB_below (Below.drew (Below.refl _ _)) ?step ?fin
  case step =>
    intro i op hi him b W' hinv hkeep hdef hpre K hK
    have HI := Aside0.mk hinv
    have HPRE := Aside0.mk hpre
    have HKEEP := Aside0.mk hkeep
    have HKK := Aside0.mk hK
    clear hinv hpre hkeep hK hdef
    obtain rfl | rfl | rfl | rfl | rfl | rfl | rfl | rfl | rfl | rfl | rfl | rfl | rfl | rfl | rfl | rfl | rfl | rfl | rfl | rfl | rfl | rfl | rfl | rfl | rfl | rfl | rfl | rfl | rfl | rfl | rfl | rfl | rfl | rfl | rfl | rfl | rfl | rfl | rfl | rfl | rfl | rfl | rfl | rfl | rfl | rfl | rfl | rfl | rfl | rfl | rfl | rfl | rfl | rfl | rfl | rfl | rfl | rfl | rfl | rfl | rfl : i = 0 ∨ i = 1 ∨ i = 2 ∨ i = 3 ∨ i = 4 ∨ i = 5 ∨ i = 6 ∨ i = 7 ∨ i = 8 ∨ i = 9 ∨ i = 10 ∨ i = 11 ∨ i = 12 ∨ i = 13 ∨ i = 14 ∨ i = 15 ∨ i = 16 ∨ i = 17 ∨ i = 18 ∨ i = 19 ∨ i = 20 ∨ i = 21 ∨ i = 22 ∨ i = 23 ∨ i = 24 ∨ i = 25 ∨ i = 26 ∨ i = 27 ∨ i = 28 ∨ i = 29 ∨ i = 30 ∨ i = 31 ∨ i = 32 ∨ i = 33 ∨ i = 34 ∨ i = 35 ∨ i = 36 ∨ i = 37 ∨ i = 38 ∨ i = 39 ∨ i = 40 ∨ i = 41 ∨ i = 42 ∨ i = 43 ∨ i = 44 ∨ i = 45 ∨ i = 46 ∨ i = 47 ∨ i = 48 ∨ i = 49 ∨ i = 50 ∨ i = 51 ∨ i = 52 ∨ i = 53 ∨ i = 54 ∨ i = 55 ∨ i = 56 ∨ i = 57 ∨ i = 58 ∨ i = 59 ∨ i = 60 := by omega
    · cases hi
      have e7 : b.tmps.getD 7 undef = .int .u32 code := HKEEP.out 7 (by kernel_rfl)
      rw [if_pos (by rfl)]
      go_simp
      exact HKK.out _ _ HI.out (Below.refl _ _) (by first | rfl | (simp; done))
    · cases hi
      have e4 : b.tmps.getD 4 undef = .pointer (some ⟨n, 0, none⟩) := HKEEP.out 4 (by kernel_rfl)
      rw [if_pos (by rfl)]
      go_simp
      exact HKK.out _ _ HI.out (Below.refl _ _) (by first | rfl | (simp; done))
    · cases hi
      have e20 : b.tmps.getD 20 undef = .pointer (some ⟨n, 10, none⟩) := HPRE.out 1 (by kernel_rfl) (by omega)
      have c10 : W'.cell? ⟨n, 10, none⟩ = some (.int .u32 code) := (blk_cell (blk_below HBX.out HI.out) 10).trans rfl
      rw [if_pos (by rfl)]
      go_simp
      exact HKK.out _ _ HI.out (Below.refl _ _) (by first | rfl | (simp; done))
    · cases hi
      have e19 : b.tmps.getD 19 undef = .int .u32 code := HPRE.out 0 (by kernel_rfl) (by omega)
      have e21 : b.tmps.getD 21 undef = .int .u32 code := HPRE.out 2 (by kernel_rfl) (by omega)
      rw [if_pos (by rfl)]
      go_simp
      exact HKK.out _ _ HI.out (Below.refl _ _) (by first | rfl | (simp; done))
    · cases hi
      have e22 : b.tmps.getD 22 undef = .bool true := HPRE.out 3 (by kernel_rfl) (by omega)
      rw [if_pos (by rfl)]
      go_simp
      exact HKK.out _ _ HI.out (Below.refl _ _) (by first | rfl | (simp; done))
    · cases hi
      have e23 : b.tmps.getD 23 undef = .bool true := HPRE.out 4 (by kernel_rfl) (by omega)
      have e8 : b.tmps.getD 8 undef = .bool off := HKEEP.out 8 (by kernel_rfl)
      rw [if_pos (wanted_yes rfl rfl rfl e23)]
      go_simp
      exact HKK.out _ _ HI.out (Below.refl _ _) (by first | rfl | (simp; done))
    · cases hi
      have e23 : b.tmps.getD 23 undef = .bool true := HPRE.out 4 (by kernel_rfl) (by omega)
      have e4 : b.tmps.getD 4 undef = .pointer (some ⟨n, 0, none⟩) := HKEEP.out 4 (by kernel_rfl)
      rw [if_pos (wanted_yes rfl rfl rfl e23)]
      go_simp
      exact HKK.out _ _ HI.out (Below.refl _ _) (by first | rfl | (simp; done))
    · cases hi
      have e23 : b.tmps.getD 23 undef = .bool true := HPRE.out 4 (by kernel_rfl) (by omega)
      have e25 : b.tmps.getD 25 undef = .pointer (some ⟨n, 9, none⟩) := HPRE.out 6 (by kernel_rfl) (by omega)
      have c9 : W'.cell? ⟨n, 9, none⟩ = some (.bool off) := (blk_cell (blk_below HBX.out HI.out) 9).trans rfl
      rw [if_pos (wanted_yes rfl rfl rfl e23)]
      go_simp
      exact HKK.out _ _ HI.out (Below.refl _ _) (by first | rfl | (simp; done))
    · cases hi
      have e23 : b.tmps.getD 23 undef = .bool true := HPRE.out 4 (by kernel_rfl) (by omega)
      have e24 : b.tmps.getD 24 undef = .bool off := HPRE.out 5 (by kernel_rfl) (by omega)
      have e26 : b.tmps.getD 26 undef = .bool off := HPRE.out 7 (by kernel_rfl) (by omega)
      rw [if_pos (wanted_yes rfl rfl rfl e23)]
      go_simp
      exact HKK.out _ _ HI.out (Below.refl _ _) (by first | rfl | (simp; done))
    · cases hi
      have e23 : b.tmps.getD 23 undef = .bool true := HPRE.out 4 (by kernel_rfl) (by omega)
      have e27 : b.tmps.getD 27 undef = .bool true := HPRE.out 8 (by kernel_rfl) (by omega)
      rw [if_pos (by rfl)]
      go_simp
      exact HKK.out _ _ HI.out (Below.refl _ _) (by first | rfl | (simp; done))
    · cases hi
      have e28 : b.tmps.getD 28 undef = .bool true := HPRE.out 9 (by kernel_rfl) (by omega)
      rw [if_pos (by rfl)]
      go_simp
      exact HKK.out _ _ HI.out (Below.refl _ _) (by first | rfl | (simp; done))
    · cases hi
      have e29 : b.tmps.getD 29 undef = .bool true := HPRE.out 10 (by kernel_rfl) (by omega)
      have e0 : b.tmps.getD 0 undef = .pointer (some ⟨B, 0, none⟩) := HKEEP.out 0 (by kernel_rfl)
      rw [if_pos (wanted_yes rfl rfl rfl e29)]
      go_simp
      exact HKK.out _ _ HI.out (Below.refl _ _) (by first | rfl | (simp; done))
    · cases hi
      have e29 : b.tmps.getD 29 undef = .bool true := HPRE.out 10 (by kernel_rfl) (by omega)
      have e2 : b.tmps.getD 2 undef = .int .u64 t := HKEEP.out 2 (by kernel_rfl)
      rw [if_pos (wanted_yes rfl rfl rfl e29)]
      go_simp
      exact HKK.out _ _ HI.out (Below.refl _ _) (by first | rfl | (simp; done))
    · cases hi
      have e29 : b.tmps.getD 29 undef = .bool true := HPRE.out 10 (by kernel_rfl) (by omega)
      have e30 : b.tmps.getD 30 undef = .pointer (some ⟨B, 0, none⟩) := HPRE.out 11 (by kernel_rfl) (by omega)
      have e31 : b.tmps.getD 31 undef = .int .u64 t := HPRE.out 12 (by kernel_rfl) (by omega)
      rw [if_pos (wanted_yes rfl rfl rfl e29)]
      go_simp
      have HM := bcalls_calls t (HM0.out.below HI.out)
      rw [HCV.out] at HM
      refine HM.mono ?_
      rintro e W2 ⟨rfl, d⟩
      exact HKK.out _ _ (below_on HI.out d) d rfl
    · cases hi
      have e29 : b.tmps.getD 29 undef = .bool true := HPRE.out 10 (by kernel_rfl) (by omega)
      have e4 : b.tmps.getD 4 undef = .pointer (some ⟨n, 0, none⟩) := HKEEP.out 4 (by kernel_rfl)
      have c0 : W'.cell? ⟨n, 0, none⟩ = some (.slice Ab nl cb) := (blk_cell (blk_below HBX.out HI.out) 0).trans rfl
      have c1 : W'.cell? ⟨n, 1, none⟩ = some (.slice A len cap) := (blk_cell (blk_below HBX.out HI.out) 1).trans rfl
      have c2 : W'.cell? ⟨n, 2, none⟩ = some (.int .i64 (came : Int)) := (blk_cell (blk_below HBX.out HI.out) 2).trans rfl
      have c3 : W'.cell? ⟨n, 3, none⟩ = some (.slice Ar nq cr) := (blk_cell (blk_below HBX.out HI.out) 3).trans rfl
      have c4 : W'.cell? ⟨n, 4, none⟩ = some (.bool over) := (blk_cell (blk_below HBX.out HI.out) 4).trans rfl
      have c5 : W'.cell? ⟨n, 5, none⟩ = some (.slice Ao no co) := (blk_cell (blk_below HBX.out HI.out) 5).trans rfl
      have c6 : W'.cell? ⟨n, 6, none⟩ = some (.int .u64 o) := (blk_cell (blk_below HBX.out HI.out) 6).trans rfl
      have c7 : W'.cell? ⟨n, 7, none⟩ = some (.int .u64 m) := (blk_cell (blk_below HBX.out HI.out) 7).trans rfl
      have c8 : W'.cell? ⟨n, 8, none⟩ = some (.bool s) := (blk_cell (blk_below HBX.out HI.out) 8).trans rfl
      have c9 : W'.cell? ⟨n, 9, none⟩ = some (.bool off) := (blk_cell (blk_below HBX.out HI.out) 9).trans rfl
      have c10 : W'.cell? ⟨n, 10, none⟩ = some (.int .u32 code) := (blk_cell (blk_below HBX.out HI.out) 10).trans rfl
      rw [if_pos (wanted_yes rfl rfl rfl e29)]
      go_simp
      exact HKK.out _ _ HI.out (Below.refl _ _) (by first | rfl | (simp; done))
    · cases hi
      have e29 : b.tmps.getD 29 undef = .bool true := HPRE.out 10 (by kernel_rfl) (by omega)
      have e2 : b.tmps.getD 2 undef = .int .u64 t := HKEEP.out 2 (by kernel_rfl)
      rw [if_pos (wanted_yes rfl rfl rfl e29)]
      go_simp
      exact HKK.out _ _ HI.out (Below.refl _ _) (by first | rfl | (simp; done))
    · cases hi
      have e29 : b.tmps.getD 29 undef = .bool true := HPRE.out 10 (by kernel_rfl) (by omega)
      have e33 : b.tmps.getD 33 undef = .agg #[.slice Ab nl cb, .slice A len cap, .int .i64 (came : Int), .slice Ar nq cr, .bool over, .slice Ao no co, .int .u64 o, .int .u64 m, .bool s, .bool off, .int .u32 code] := HPRE.out 14 (by kernel_rfl) (by omega)
      have e34 : b.tmps.getD 34 undef = .int .u64 t := HPRE.out 15 (by kernel_rfl) (by omega)
      rw [if_pos (wanted_yes rfl rfl rfl e29)]
      go_simp
      have VL := V1.out.below HI.out
      have VQ := V2.out.below HI.out
      have VO := V3.out.below HI.out
      have HM := mimesisref14_Calls.calls 1 Ab cb l A cap lal (came : Int) Ar cr q over Ao co out o m s off code t cv W' (VL.C (by have := HLL.out; omega)) VL.le (HAL.out _ HI.out) HAL2.out (VQ.C (by have := HLQ.out; omega)) VQ.le (VO.C (by have := HLO.out; omega)) VO.le (by rw [rcalls_f]; rw [HCV.out])
      rw [HN.out.1, HN.out.2.1, HN.out.2.2, HALN.out] at HM
      refine HM.mono ?_
      rintro e W2 ⟨rfl, d⟩
      exact HKK.out _ _ (below_on HI.out d) d rfl
    · cases hi
      have e29 : b.tmps.getD 29 undef = .bool true := HPRE.out 10 (by kernel_rfl) (by omega)
      have e32 : b.tmps.getD 32 undef = .int .u32 cv := HPRE.out 13 (by kernel_rfl) (by omega)
      have e35 : b.tmps.getD 35 undef = .int .u32 cv := HPRE.out 16 (by kernel_rfl) (by omega)
      rw [if_pos (wanted_yes rfl rfl rfl e29)]
      go_simp
      exact HKK.out _ _ HI.out (Below.refl _ _) (by first | rfl | (simp; done))
    · cases hi
      have e29 : b.tmps.getD 29 undef = .bool true := HPRE.out 10 (by kernel_rfl) (by omega)
      have e36 : b.tmps.getD 36 undef = .bool true := HPRE.out 17 (by kernel_rfl) (by omega)
      rw [if_pos (by rfl)]
      go_simp
      exact HKK.out _ _ HI.out (Below.refl _ _) (by first | rfl | (simp; done))
    · cases hi
      have e37 : b.tmps.getD 37 undef = .bool true := HPRE.out 18 (by kernel_rfl) (by omega)
      rw [if_pos (by rfl)]
      go_simp
      exact HKK.out _ _ HI.out (Below.refl _ _) (by first | rfl | (simp; done))
    · cases hi
      have e38 : b.tmps.getD 38 undef = .bool true := HPRE.out 19 (by kernel_rfl) (by omega)
      have e0 : b.tmps.getD 0 undef = .pointer (some ⟨B, 0, none⟩) := HKEEP.out 0 (by kernel_rfl)
      rw [if_pos (wanted_yes rfl rfl rfl e38)]
      go_simp
      exact HKK.out _ _ HI.out (Below.refl _ _) (by first | rfl | (simp; done))
    · cases hi
      have e38 : b.tmps.getD 38 undef = .bool true := HPRE.out 19 (by kernel_rfl) (by omega)
      have e39 : b.tmps.getD 39 undef = .pointer (some ⟨B, 0, none⟩) := HPRE.out 20 (by kernel_rfl) (by omega)
      rw [if_pos (wanted_yes rfl rfl rfl e38)]
      go_simp
      refine (bram_calls W' (HM0.out.below HI.out).b).mono ?_
      rintro e W2 ⟨rfl, d⟩
      exact HKK.out _ _ (below_on HI.out d.below) d.below rfl
    · cases hi
      have e38 : b.tmps.getD 38 undef = .bool true := HPRE.out 19 (by kernel_rfl) (by omega)
      have e40 : b.tmps.getD 40 undef = .pointer (some ⟨R, 0, none⟩) := HPRE.out 21 (by kernel_rfl) (by omega)
      rw [if_pos (wanted_yes rfl rfl rfl e38)]
      go_simp
      refine (bytes_calls W' (HM0.out.below HI.out).r HM0.out.n0).mono ?_
      rintro e W2 ⟨rfl, hb, d⟩
      rw [show nr = nl by have := HM0.out.r.nl; have := HN.out.1; omega]
      exact HKK.out _ _ (below_on HI.out d) d ⟨_, _, rfl, by have := HN.out.1; omega, brow_all' hb (by have := HLL.out; omega)⟩
    · cases hi
      have e38 : b.tmps.getD 38 undef = .bool true := HPRE.out 19 (by kernel_rfl) (by omega)
      have e4 : b.tmps.getD 4 undef = .pointer (some ⟨n, 0, none⟩) := HKEEP.out 4 (by kernel_rfl)
      rw [if_pos (wanted_yes rfl rfl rfl e38)]
      go_simp
      exact HKK.out _ _ HI.out (Below.refl _ _) (by first | rfl | (simp; done))
    · cases hi
      have e38 : b.tmps.getD 38 undef = .bool true := HPRE.out 19 (by kernel_rfl) (by omega)
      have e42 : b.tmps.getD 42 undef = .pointer (some ⟨n, 0, none⟩) := HPRE.out 23 (by kernel_rfl) (by omega)
      have c0 : W'.cell? ⟨n, 0, none⟩ = some (.slice Ab nl cb) := (blk_cell (blk_below HBX.out HI.out) 0).trans rfl
      rw [if_pos (wanted_yes rfl rfl rfl e38)]
      go_simp
      exact HKK.out _ _ HI.out (Below.refl _ _) (by first | rfl | (simp; done))
    · cases hi
      have e38 : b.tmps.getD 38 undef = .bool true := HPRE.out 19 (by kernel_rfl) (by omega)
      have e43 : b.tmps.getD 43 undef = .slice Ab nl cb := HPRE.out 24 (by kernel_rfl) (by omega)
      obtain ⟨A', c', e41, hlc, hC⟩ := HPRE.out 22 (by kernel_rfl) (by omega)
      have e41 : b.tmps.getD 41 undef = .slice A' nl c' := e41
      rw [if_pos (wanted_yes rfl rfl rfl e38)]
      go_simp
      have VL := V1.out.below HI.out
      have HM := mimesisref01_SameBytes.calls 70000 A' c' l Ab cb l true W' hC hlc (VL.C (by have := HLL.out; omega)) VL.le (same_self l (by have := HLL.out; omega) 70000 (by have := HLL.out; omega))
      rw [HN.out.1] at HM
      refine HM.mono ?_
      rintro e W2 ⟨rfl, d⟩
      exact HKK.out _ _ (below_on HI.out d.below) d.below rfl
    · cases hi
      have e38 : b.tmps.getD 38 undef = .bool true := HPRE.out 19 (by kernel_rfl) (by omega)
      have e44 : b.tmps.getD 44 undef = .bool true := HPRE.out 25 (by kernel_rfl) (by omega)
      rw [if_pos (by rfl)]
      go_simp
      exact HKK.out _ _ HI.out (Below.refl _ _) (by first | rfl | (simp; done))
    · cases hi
      have e45 : b.tmps.getD 45 undef = .bool true := HPRE.out 26 (by kernel_rfl) (by omega)
      rw [if_pos (by rfl)]
      go_simp
      exact HKK.out _ _ HI.out (Below.refl _ _) (by first | rfl | (simp; done))
    · cases hi
      have e46 : b.tmps.getD 46 undef = .bool true := HPRE.out 27 (by kernel_rfl) (by omega)
      have e0 : b.tmps.getD 0 undef = .pointer (some ⟨B, 0, none⟩) := HKEEP.out 0 (by kernel_rfl)
      rw [if_pos (wanted_yes rfl rfl rfl e46)]
      go_simp
      exact HKK.out _ _ HI.out (Below.refl _ _) (by first | rfl | (simp; done))
    · cases hi
      have e46 : b.tmps.getD 46 undef = .bool true := HPRE.out 27 (by kernel_rfl) (by omega)
      have e47 : b.tmps.getD 47 undef = .pointer (some ⟨B, 0, none⟩) := HPRE.out 28 (by kernel_rfl) (by omega)
      rw [if_pos (wanted_yes rfl rfl rfl e46)]
      go_simp
      refine (bcon_calls W' (HM0.out.below HI.out).b).mono ?_
      rintro e W2 ⟨rfl, d⟩
      exact HKK.out _ _ (below_on HI.out d.below) d.below rfl
    · cases hi
      have e46 : b.tmps.getD 46 undef = .bool true := HPRE.out 27 (by kernel_rfl) (by omega)
      have e48 : b.tmps.getD 48 undef = .pointer (some ⟨C, 0, none⟩) := HPRE.out 29 (by kernel_rfl) (by omega)
      rw [if_pos (wanted_yes rfl rfl rfl e46)]
      go_simp
      refine (kc_out (HM0.out.below HI.out).c HLO.out).mono ?_
      rintro e W2 ⟨⟨A', c', rfl, h1, h2⟩, d⟩
      rw [HN.out.2.2]
      exact HKK.out _ _ (below_on HI.out d) d ⟨A', c', rfl, h1, h2⟩
    · cases hi
      have e46 : b.tmps.getD 46 undef = .bool true := HPRE.out 27 (by kernel_rfl) (by omega)
      have e4 : b.tmps.getD 4 undef = .pointer (some ⟨n, 0, none⟩) := HKEEP.out 4 (by kernel_rfl)
      rw [if_pos (wanted_yes rfl rfl rfl e46)]
      go_simp
      exact HKK.out _ _ HI.out (Below.refl _ _) (by first | rfl | (simp; done))
    · cases hi
      have e46 : b.tmps.getD 46 undef = .bool true := HPRE.out 27 (by kernel_rfl) (by omega)
      have e50 : b.tmps.getD 50 undef = .pointer (some ⟨n, 1, none⟩) := HPRE.out 31 (by kernel_rfl) (by omega)
      rw [if_pos (wanted_yes rfl rfl rfl e46)]
      go_simp
      exact HKK.out _ _ HI.out (Below.refl _ _) (by first | rfl | (simp; done))
    · cases hi
      have e46 : b.tmps.getD 46 undef = .bool true := HPRE.out 27 (by kernel_rfl) (by omega)
      have e51 : b.tmps.getD 51 undef = .pointer (some ⟨n, 5, none⟩) := HPRE.out 32 (by kernel_rfl) (by omega)
      have c5 : W'.cell? ⟨n, 5, none⟩ = some (.slice Ao no co) := (blk_cell (blk_below HBX.out HI.out) 5).trans rfl
      rw [if_pos (wanted_yes rfl rfl rfl e46)]
      go_simp
      exact HKK.out _ _ HI.out (Below.refl _ _) (by first | rfl | (simp; done))
    · cases hi
      have e46 : b.tmps.getD 46 undef = .bool true := HPRE.out 27 (by kernel_rfl) (by omega)
      have e52 : b.tmps.getD 52 undef = .slice Ao no co := HPRE.out 33 (by kernel_rfl) (by omega)
      obtain ⟨A', c', e49, hlc, hC⟩ := HPRE.out 30 (by kernel_rfl) (by omega)
      have e49 : b.tmps.getD 49 undef = .slice A' no c' := e49
      rw [if_pos (wanted_yes rfl rfl rfl e46)]
      go_simp
      have VL := V3.out.below HI.out
      have HM := mimesisref01_SameBytes.calls 70000 A' c' out Ao co out true W' hC hlc (VL.C (by have := HLO.out; omega)) VL.le (same_self out (by have := HLO.out; omega) 70000 (by have := HLO.out; omega))
      rw [HN.out.2.2] at HM
      refine HM.mono ?_
      rintro e W2 ⟨rfl, d⟩
      exact HKK.out _ _ (below_on HI.out d.below) d.below rfl
    · cases hi
      have e46 : b.tmps.getD 46 undef = .bool true := HPRE.out 27 (by kernel_rfl) (by omega)
      have e53 : b.tmps.getD 53 undef = .bool true := HPRE.out 34 (by kernel_rfl) (by omega)
      rw [if_pos (by rfl)]
      go_simp
      exact HKK.out _ _ HI.out (Below.refl _ _) (by first | rfl | (simp; done))
    · cases hi
      have e54 : b.tmps.getD 54 undef = .bool true := HPRE.out 35 (by kernel_rfl) (by omega)
      rw [if_pos (by rfl)]
      go_simp
      exact HKK.out _ _ HI.out (Below.refl _ _) (by first | rfl | (simp; done))
    · cases hi
      have e55 : b.tmps.getD 55 undef = .bool true := HPRE.out 36 (by kernel_rfl) (by omega)
      have e0 : b.tmps.getD 0 undef = .pointer (some ⟨B, 0, none⟩) := HKEEP.out 0 (by kernel_rfl)
      rw [if_pos (wanted_yes rfl rfl rfl e55)]
      go_simp
      exact HKK.out _ _ HI.out (Below.refl _ _) (by first | rfl | (simp; done))
    · cases hi
      have e55 : b.tmps.getD 55 undef = .bool true := HPRE.out 36 (by kernel_rfl) (by omega)
      have e56 : b.tmps.getD 56 undef = .pointer (some ⟨B, 0, none⟩) := HPRE.out 37 (by kernel_rfl) (by omega)
      rw [if_pos (wanted_yes rfl rfl rfl e55)]
      go_simp
      refine (bcon_calls W' (HM0.out.below HI.out).b).mono ?_
      rintro e W2 ⟨rfl, d⟩
      exact HKK.out _ _ (below_on HI.out d.below) d.below rfl
    · cases hi
      have e55 : b.tmps.getD 55 undef = .bool true := HPRE.out 36 (by kernel_rfl) (by omega)
      have e57 : b.tmps.getD 57 undef = .pointer (some ⟨C, 0, none⟩) := HPRE.out 38 (by kernel_rfl) (by omega)
      rw [if_pos (wanted_yes rfl rfl rfl e55)]
      go_simp
      refine (kc_waits (HM0.out.below HI.out).c).mono ?_
      rintro e W2 ⟨⟨A', c', rfl, h1, h2⟩, d⟩
      rw [HN.out.2.1]
      exact HKK.out _ _ (below_on HI.out d) d ⟨A', c', rfl, h1, h2⟩
    · cases hi
      have e55 : b.tmps.getD 55 undef = .bool true := HPRE.out 36 (by kernel_rfl) (by omega)
      have e4 : b.tmps.getD 4 undef = .pointer (some ⟨n, 0, none⟩) := HKEEP.out 4 (by kernel_rfl)
      rw [if_pos (wanted_yes rfl rfl rfl e55)]
      go_simp
      exact HKK.out _ _ HI.out (Below.refl _ _) (by first | rfl | (simp; done))
    · cases hi
      have e55 : b.tmps.getD 55 undef = .bool true := HPRE.out 36 (by kernel_rfl) (by omega)
      have e59 : b.tmps.getD 59 undef = .pointer (some ⟨n, 1, none⟩) := HPRE.out 40 (by kernel_rfl) (by omega)
      rw [if_pos (wanted_yes rfl rfl rfl e55)]
      go_simp
      exact HKK.out _ _ HI.out (Below.refl _ _) (by first | rfl | (simp; done))
    · cases hi
      have e55 : b.tmps.getD 55 undef = .bool true := HPRE.out 36 (by kernel_rfl) (by omega)
      have e60 : b.tmps.getD 60 undef = .pointer (some ⟨n, 3, none⟩) := HPRE.out 41 (by kernel_rfl) (by omega)
      have c3 : W'.cell? ⟨n, 3, none⟩ = some (.slice Ar nq cr) := (blk_cell (blk_below HBX.out HI.out) 3).trans rfl
      rw [if_pos (wanted_yes rfl rfl rfl e55)]
      go_simp
      exact HKK.out _ _ HI.out (Below.refl _ _) (by first | rfl | (simp; done))
    · cases hi
      have e55 : b.tmps.getD 55 undef = .bool true := HPRE.out 36 (by kernel_rfl) (by omega)
      have e61 : b.tmps.getD 61 undef = .slice Ar nq cr := HPRE.out 42 (by kernel_rfl) (by omega)
      obtain ⟨A', c', e58, hlc, hC⟩ := HPRE.out 39 (by kernel_rfl) (by omega)
      have e58 : b.tmps.getD 58 undef = .slice A' nq c' := e58
      rw [if_pos (wanted_yes rfl rfl rfl e55)]
      go_simp
      have VL := V2.out.below HI.out
      have HM := mimesisref01_SameBytes.calls 70000 A' c' q Ar cr q true W' hC hlc (VL.C (by have := HLQ.out; omega)) VL.le (same_self q (by have := HLQ.out; omega) 70000 (by have := HLQ.out; omega))
      rw [HN.out.2.1] at HM
      refine HM.mono ?_
      rintro e W2 ⟨rfl, d⟩
      exact HKK.out _ _ (below_on HI.out d.below) d.below rfl
    · cases hi
      have e55 : b.tmps.getD 55 undef = .bool true := HPRE.out 36 (by kernel_rfl) (by omega)
      have e62 : b.tmps.getD 62 undef = .bool true := HPRE.out 43 (by kernel_rfl) (by omega)
      rw [if_pos (by rfl)]
      go_simp
      exact HKK.out _ _ HI.out (Below.refl _ _) (by first | rfl | (simp; done))
    · cases hi
      have e63 : b.tmps.getD 63 undef = .bool true := HPRE.out 44 (by kernel_rfl) (by omega)
      rw [if_pos (by rfl)]
      go_simp
      exact HKK.out _ _ HI.out (Below.refl _ _) (by first | rfl | (simp; done))
    · cases hi
      have e64 : b.tmps.getD 64 undef = .bool true := HPRE.out 45 (by kernel_rfl) (by omega)
      have e9 : b.tmps.getD 9 undef = .pointer (some ⟨T, 0, none⟩) := HKEEP.out 9 (by kernel_rfl)
      rw [if_pos (wanted_yes rfl rfl rfl e64)]
      go_simp
      exact HKK.out _ _ HI.out (Below.refl _ _) (by first | rfl | (simp; done))
    · cases hi
      have e64 : b.tmps.getD 64 undef = .bool true := HPRE.out 45 (by kernel_rfl) (by omega)
      have e65 : b.tmps.getD 65 undef = .pointer (some ⟨T, 0, none⟩) := HPRE.out 46 (by kernel_rfl) (by omega)
      rw [if_pos (wanted_yes rfl rfl rfl e64)]
      go_simp
      exact HKK.out _ _ HI.out (Below.refl _ _) (by first | rfl | (simp; done))
    · cases hi
      have e64 : b.tmps.getD 64 undef = .bool true := HPRE.out 45 (by kernel_rfl) (by omega)
      have e66 : b.tmps.getD 66 undef = .pointer (some ⟨T, 0, none⟩) := HPRE.out 47 (by kernel_rfl) (by omega)
      have t0 := (HM0.out.below HI.out).t.c0
      have t1 := (HM0.out.below HI.out).t.c1
      have t2 := (HM0.out.below HI.out).t.c2
      rw [if_pos (wanted_yes rfl rfl rfl e64)]
      go_simp
      exact HKK.out _ _ HI.out (Below.refl _ _) (by first | rfl | (simp; done))
    · cases hi
      have e64 : b.tmps.getD 64 undef = .bool true := HPRE.out 45 (by kernel_rfl) (by omega)
      have e4 : b.tmps.getD 4 undef = .pointer (some ⟨n, 0, none⟩) := HKEEP.out 4 (by kernel_rfl)
      rw [if_pos (wanted_yes rfl rfl rfl e64)]
      go_simp
      exact HKK.out _ _ HI.out (Below.refl _ _) (by first | rfl | (simp; done))
    · cases hi
      have e64 : b.tmps.getD 64 undef = .bool true := HPRE.out 45 (by kernel_rfl) (by omega)
      have e68 : b.tmps.getD 68 undef = .pointer (some ⟨n, 6, none⟩) := HPRE.out 49 (by kernel_rfl) (by omega)
      rw [if_pos (wanted_yes rfl rfl rfl e64)]
      go_simp
      exact HKK.out _ _ HI.out (Below.refl _ _) (by first | rfl | (simp; done))
    · cases hi
      have e64 : b.tmps.getD 64 undef = .bool true := HPRE.out 45 (by kernel_rfl) (by omega)
      have e69 : b.tmps.getD 69 undef = .pointer (some ⟨n, 6, none⟩) := HPRE.out 50 (by kernel_rfl) (by omega)
      have c6 : W'.cell? ⟨n, 6, none⟩ = some (.int .u64 o) := (blk_cell (blk_below HBX.out HI.out) 6).trans rfl
      rw [if_pos (wanted_yes rfl rfl rfl e64)]
      go_simp
      exact HKK.out _ _ HI.out (Below.refl _ _) (by first | rfl | (simp; done))
    · cases hi
      have e64 : b.tmps.getD 64 undef = .bool true := HPRE.out 45 (by kernel_rfl) (by omega)
      have e4 : b.tmps.getD 4 undef = .pointer (some ⟨n, 0, none⟩) := HKEEP.out 4 (by kernel_rfl)
      rw [if_pos (wanted_yes rfl rfl rfl e64)]
      go_simp
      exact HKK.out _ _ HI.out (Below.refl _ _) (by first | rfl | (simp; done))
    · cases hi
      have e64 : b.tmps.getD 64 undef = .bool true := HPRE.out 45 (by kernel_rfl) (by omega)
      have e71 : b.tmps.getD 71 undef = .pointer (some ⟨n, 6, none⟩) := HPRE.out 52 (by kernel_rfl) (by omega)
      rw [if_pos (wanted_yes rfl rfl rfl e64)]
      go_simp
      exact HKK.out _ _ HI.out (Below.refl _ _) (by first | rfl | (simp; done))
    · cases hi
      have e64 : b.tmps.getD 64 undef = .bool true := HPRE.out 45 (by kernel_rfl) (by omega)
      have e72 : b.tmps.getD 72 undef = .pointer (some ⟨n, 7, none⟩) := HPRE.out 53 (by kernel_rfl) (by omega)
      have c7 : W'.cell? ⟨n, 7, none⟩ = some (.int .u64 m) := (blk_cell (blk_below HBX.out HI.out) 7).trans rfl
      rw [if_pos (wanted_yes rfl rfl rfl e64)]
      go_simp
      exact HKK.out _ _ HI.out (Below.refl _ _) (by first | rfl | (simp; done))
    · cases hi
      have e64 : b.tmps.getD 64 undef = .bool true := HPRE.out 45 (by kernel_rfl) (by omega)
      have e4 : b.tmps.getD 4 undef = .pointer (some ⟨n, 0, none⟩) := HKEEP.out 4 (by kernel_rfl)
      rw [if_pos (wanted_yes rfl rfl rfl e64)]
      go_simp
      exact HKK.out _ _ HI.out (Below.refl _ _) (by first | rfl | (simp; done))
    · cases hi
      have e64 : b.tmps.getD 64 undef = .bool true := HPRE.out 45 (by kernel_rfl) (by omega)
      have e74 : b.tmps.getD 74 undef = .pointer (some ⟨n, 6, none⟩) := HPRE.out 55 (by kernel_rfl) (by omega)
      rw [if_pos (wanted_yes rfl rfl rfl e64)]
      go_simp
      exact HKK.out _ _ HI.out (Below.refl _ _) (by first | rfl | (simp; done))
    · cases hi
      have e64 : b.tmps.getD 64 undef = .bool true := HPRE.out 45 (by kernel_rfl) (by omega)
      have e75 : b.tmps.getD 75 undef = .pointer (some ⟨n, 8, none⟩) := HPRE.out 56 (by kernel_rfl) (by omega)
      have c8 : W'.cell? ⟨n, 8, none⟩ = some (.bool s) := (blk_cell (blk_below HBX.out HI.out) 8).trans rfl
      rw [if_pos (wanted_yes rfl rfl rfl e64)]
      go_simp
      exact HKK.out _ _ HI.out (Below.refl _ _) (by first | rfl | (simp; done))
    · cases hi
      have e64 : b.tmps.getD 64 undef = .bool true := HPRE.out 45 (by kernel_rfl) (by omega)
      have e70 : b.tmps.getD 70 undef = .int .u64 o := HPRE.out 51 (by kernel_rfl) (by omega)
      have e73 : b.tmps.getD 73 undef = .int .u64 m := HPRE.out 54 (by kernel_rfl) (by omega)
      have e76 : b.tmps.getD 76 undef = .bool s := HPRE.out 57 (by kernel_rfl) (by omega)
      rw [if_pos (wanted_yes rfl rfl rfl e64)]
      refine wp_build_eq 96 #[(0, .tmp 70), (1, .tmp 73), (2, .tmp 76)] rfl #[.int .u64 o, .int .u64 m, .bool s] (by simp only [List.map_toArray, List.map_cons, List.map_nil]; rw [show b.eval (.tmp 70) = _ from e70, show b.eval (.tmp 73) = _ from e73, show b.eval (.tmp 76) = _ from e76]; kernel_rfl) ?_
      exact HKK.out _ _ HI.out (Below.refl _ _) rfl
    · cases hi
      have e64 : b.tmps.getD 64 undef = .bool true := HPRE.out 45 (by kernel_rfl) (by omega)
      have e67 : b.tmps.getD 67 undef = .agg #[.int .u64 o, .int .u64 m, .bool s] := HPRE.out 48 (by kernel_rfl) (by omega)
      have e77 : b.tmps.getD 77 undef = .agg #[.int .u64 o, .int .u64 m, .bool s] := HPRE.out 58 (by kernel_rfl) (by omega)
      rw [if_pos (wanted_yes rfl rfl rfl e64)]
      go_simp
      exact HKK.out _ _ HI.out (Below.refl _ _) (by first | rfl | (simp; done))
    · cases hi
      have e64 : b.tmps.getD 64 undef = .bool true := HPRE.out 45 (by kernel_rfl) (by omega)
      have e78 : b.tmps.getD 78 undef = .bool true := HPRE.out 59 (by kernel_rfl) (by omega)
      rw [if_pos (by rfl)]
      go_simp
      exact HKK.out _ _ HI.out (Below.refl _ _) (by first | rfl | (simp; done))
  case fin =>
    intro b W' hinv hsz hdef hkeep hpost
    have e79 : b.tmps.getD 79 undef = .bool true := hpost 60 (by omega)
    refine rj_lastv (by kernel_rfl) rfl (by kernel_rfl) rfl (by kernel_rfl) ?_
    have hsz6 : 6 < b.tmps.size := by rw [hsz]; exact of_decide_eq_true (by kernel_rfl)
    have g6 := (putd b 6 (.bool true) 6 hsz6).trans (if_pos rfl)
    go_simp
    go_wp2_with fail
    refine bodyPost_ret ((results_tmp rfl _ _ _).trans (congrArg (fun z => Result.ok z W') g6)) rfl ?_
    exact ⟨rfl, below_on B3.out hinv⟩
end Go.Proofs.YtdalboofhckobaaDoor

namespace Go.Proofs.YtdalboofhckobaaDoor
open Go Go.RowKit Go.Deep Go.Proofs.YtdalboofhckobaaDoorW.PrintWords Go.Proofs.YtdalboofhckobaaDoor.QBusPlays Go.Proofs.YtdalboofhckobaaDoor.FQBusPlays
set_option linter.unusedVariables false
set_option linter.unusedSimpArgs false

theorem hdev (a : Int) (ho : a % 4 = 0) (h : 0 ≤ rdev a) : (rdev a = 0 ∧ a = 1048576) ∨ (rdev a = 1 ∧ (a = 268435456 ∨ a = 268435460)) ∨ (2 ≤ rdev a ∧ a ∈ regs) := by
  have : (a = 1048576 ∨ a = 268435456 ∨ a = 268435460 ∨ a = 33554432 ∨ a = 33570816 ∨ a = 33570820 ∨ a = 33603576 ∨ a = 33603580) := by
    unfold rdev at h
    repeat' (first | omega | split at h)
  rcases this with h | h | h | h | h | h | h | h <;> subst h
  · exact .inl ⟨by decide, rfl⟩
  · exact .inr (.inl ⟨by decide, .inl rfl⟩)
  · exact .inr (.inl ⟨by decide, .inr rfl⟩)
  all_goals exact .inr (.inr ⟨by decide, by decide⟩)
theorem OnlyP.weaken {P Q : Nat → Prop} {w w' : World} (h : OnlyP P w w') (hq : ∀ k, P k → Q k) : OnlyP Q w w' := ⟨h.os, h.tape, h.output, h.size, fun k hk hn => h.block k hk (fun hp => hn (hq k hp))⟩
/-- The blocks that the program's bus writes. -/
def YY (B R BB BW BG T : Nat) (X : Nat → Prop) (i : Nat) : Prop := i = B ∨ i = R ∨ i = BB ∨ i = BW ∨ i = BG ∨ i = T ∨ X i
section
variable {W w w' : World} {B R C T BB BW BG nr k : Nat} {X X' : Nat → Prop} {l : List Int} {ws : List Bool} {gs : List Int} {al : List (Int × Int)} {came : Nat} {q : List Int} {over : Bool} {out : List Int} {o m : Int} {s off : Bool} {code : Int} {A : Option Addr} {len cap : Nat} {v : Value} {Z : Nat → Prop}
theorem MB.ylt (h : MB W w B R C T BB BW BG nr k X l ws gs al came q over out o m s off code) : ∀ i, YY B R BB BW BG T X i → i < w.heap.size := by
  rintro i (rfl | rfl | rfl | rfl | rfl | rfl | hx)
  · exact blk_lt h.b
  · exact blk_lt h.r.r
  · exact blk_lt h.r.b
  · exact blk_lt h.r.f
  · exact blk_lt h.r.g
  · exact h.t.lt
  · exact h.c.xlt i hx
theorem MB.move (h : MB W w B R C T BB BW BG nr k X l ws gs al came q over out o m s off code) (ho : OnlyP Z w w') (hZ : ∀ i, YY B R BB BW BG T X i → ¬ Z i) (hW : ∀ i, Z i → W.heap.size ≤ i) : MB W w' B R C T BB BW BG nr k X l ws gs al came q over out o m s off code := by
  have hb : ∀ i, YY B R BB BW BG T X i → w'.heap[i]? = w.heap[i]? := fun i hi => ho.block i (h.ylt i hi) (hZ i hi)
  refine ⟨(hb B (.inl rfl)).trans h.b, ram_move h.r fun i hi => hb i ?_, h.c.move ho (fun i hx => hZ i (.inr (.inr (.inr (.inr (.inr (.inr hx))))))) hW, (hb T (.inr (.inr (.inr (.inr (.inr (.inl rfl))))))).trans h.t, h.ap, h.dis, h.tb, h.bb, h.n0⟩
  rcases hi with rfl | rfl | rfl | rfl
  · exact .inr (.inl rfl)
  · exact .inr (.inr (.inl rfl))
  · exact .inr (.inr (.inr (.inl rfl)))
  · exact .inr (.inr (.inr (.inr (.inl rfl))))
/-- The document's rows, kept from the program's blocks and from Z. -/
def YZ (B R BB BW BG T : Nat) (X Z : Nat → Prop) (i : Nat) : Prop := YY B R BB BW BG T X i ∨ Z i
theorem VBus.on {P P' : Nat → Prop} (h : VBus w P A len cap v l came q over out o m s off code) {U : Nat → Prop} (ho : OnlyP U w w') (hU : ∀ i, U i → P i) (hP : ∀ i, P' i → P i ∨ w.heap.size ≤ i) : VBus w' P' A len cap v l came q over out o m s off code := by
  obtain ⟨Ab, cb, Ar, cr, Ao, co, rfl, h1, h2, h3⟩ := h
  have go : ∀ {A : Option Addr} {c : Nat} {q : List Int}, VR w P A c q → VR w' P' A c q := fun hv =>
    ((hv.wide (Y := fun i => P i ∨ P' i) (fun i hi => by rcases hi with h | h; exact .inl h; exact hP i h)).move fun i hi hn => ho.block i hi (fun hu => hn (.inl (hU i hu)))).wide fun i hi => .inl (.inr hi)
  exact ⟨Ab, cb, Ar, cr, Ao, co, rfl, go h1, go h2, go h3⟩
/-- Both say the same. -/
def SB (W : World) (B R C T BB BW BG nr k : Nat) (A : Option Addr) (len cap : Nat) (al : List (Int × Int)) (bound : Nat) (Z : Nat → Prop) (v : Value) (w : World) : Prop :=
  ∃ (X : Nat → Prop) (l : List Int) (gs : List Int) (came : Nat) (q : List Int) (over : Bool) (out : List Int) (o m : Int) (s off : Bool) (code : Int), MB W w B R C T BB BW BG nr k X l (List.replicate k false) gs al came q over out o m s off code ∧ VBus w (YZ B R BB BW BG T X Z) A len cap v l came q over out o m s off code ∧ (U8 l ∧ (0 ≤ m ∧ m < 18446744073709551616) ∧ out.length ≤ bound) ∧ (∀ i, YY B R BB BW BG T X i → ¬ Z i)
theorem SB.stab {bound : Nat} {n : Nat} (hn : W.heap.size ≤ n) (h : SB W B R C T BB BW BG nr k A len cap al bound (N3 n) v w) (ho : OnlyP (N3 n) w w') : SB W B R C T BB BW BG nr k A len cap al bound (N3 n) v w' := by
  obtain ⟨X, l, gs, came, q, over, out, o, m, s, off, code, h1, h2, h3, h4⟩ := h
  exact ⟨X, l, gs, came, q, over, out, o, m, s, off, code, h1.move ho h4 (fun i hi => Nat.le_trans hn hi.1), h2.on ho (fun i hi => .inr hi) (fun i hi => .inl hi), h3, h4⟩
theorem SB.below {bound : Nat} (h : SB W B R C T BB BW BG nr k A len cap al bound Z v w) (d : Below w.heap.size w w') : SB W B R C T BB BW BG nr k A len cap al bound Z v w' := by
  obtain ⟨X, l, gs, came, q, over, out, o, m, s, off, code, h1, h2, h3, h4⟩ := h
  exact ⟨X, l, gs, came, q, over, out, o, m, s, off, code, h1.below d, h2.below d, h3, h4⟩
theorem SB.free {bound : Nat} (h : SB W B R C T BB BW BG nr k A len cap al bound Z v w) : SB W B R C T BB BW BG nr k A len cap al bound (fun _ => False) v w := by
  obtain ⟨X, l, gs, came, q, over, out, o, m, s, off, code, h1, h2, h3, h4⟩ := h
  exact ⟨X, l, gs, came, q, over, out, o, m, s, off, code, h1, h2.on (U := fun _ => False) (OnlyP.refl _ _) (fun i hi => hi.elim) (fun i hi => by rcases hi with hi | hi; exact .inl (.inl hi); exact hi.elim), h3, fun i _ h => h⟩
end

/-- The document's answer to a question of a bus that has these bytes. -/
theorem asks {w : World} {P : Nat → Prop} {Ab : Option Addr} {cb : Nat} {l : List Int} (h : VR w P Ab cb l) (hl : l.length ≤ 65536) (a mm : Int) (a0 : 0 ≤ a) (a1 : a < 4294967296) :
    ∀ w', Below w.heap.size w w' → Calls Tryd.prog 48 #[.slice Ab l.length cb, .int .u32 a, .int .i64 mm] w' fun e w'' => e = .returned (.int .i64 (basked l.length a mm)) ∧ Drawn0 w' w'' := fun w' hb =>
  mimesisref14_Asked.calls 1 Ab cb l a mm _ w' ((h.below hb).C (by omega)) h.le (rasked_f l a mm hl a0 a1)
theorem ask_parts {nr : Nat} {a mm : Int} (h : basked nr a mm = 0) : (mm = 1 ∨ mm = 2 ∨ mm = 4) ∧ a % mm = 0 ∧ bclass nr a mm ≠ 0 := by
  unfold basked at h
  by_cases hm : mm = 1 ∨ mm = 2 ∨ mm = 4
  · rw [if_pos hm] at h
    by_cases ho : a % mm = 0
    · rw [if_pos ho] at h
      by_cases hc : bclass nr a mm = 0
      · rw [if_pos hc] at h; omega
      · exact ⟨hm, ho, hc⟩
    · rw [if_neg ho] at h; omega
  · rw [if_neg hm] at h; omega
/-- What an access that there is, is of. -/
theorem class_parts {nr : Nat} {a mm : Int} (h : basked nr a mm = 0) : (bclass nr a mm = 1 ∧ rhas nr a mm = true ∧ rasked nr a mm = 0) ∨ (bclass nr a mm = 2 ∧ ((rdev a = 0 ∧ a = 1048576) ∨ (rdev a = 1 ∧ (a = 268435456 ∨ a = 268435460)) ∨ (2 ≤ rdev a ∧ a ∈ regs))) := by
  obtain ⟨hm, ho, hc⟩ := ask_parts h
  unfold bclass at hc ⊢
  rw [if_pos hm, if_pos ho] at hc ⊢
  by_cases hr : rhas nr a mm = true
  · refine .inl ⟨by rw [if_pos hr], hr, ?_⟩
    unfold rasked; rw [if_pos hm, if_pos ho, if_pos hr]
  · rw [if_neg hr] at hc ⊢
    by_cases h4 : mm = 4 ∧ 0 ≤ rdev a
    · rw [if_pos h4]
      obtain ⟨rfl, hd⟩ := h4
      exact .inr ⟨rfl, hdev a ho hd⟩
    · rw [if_neg h4] at hc; exact absurd rfl hc
theorem regs_ne {a : Int} (h : a ∈ regs) : a ≠ 1048576 := by rintro rfl; revert h; decide
theorem regs_has {a : Int} (h : a ∈ regs) : mimesisref13_Has.f a = some true := by rw [ref_has]; exact has_yes a h
end Go.Proofs.YtdalboofhckobaaDoor

namespace Go.Proofs.YtdalboofhckobaaDoor
open Go Go.RowKit Go.Deep Go.Proofs.YtdalboofhckobaaDoorW.PrintWords Go.Proofs.YtdalboofhckobaaDoor.QBusPlays Go.Proofs.YtdalboofhckobaaDoor.FQBusPlays
set_option linter.unusedVariables false
set_option linter.unusedSimpArgs false

theorem rpage_num (n : Nat) (a m : Int) (h : rhas n a m = true) : ∃ j : Nat, a - 2147483648 = j ∧ (j : Int) + m ≤ n ∧ 1 ≤ m ∧ rpage n a = ((j / 64 : Nat) : Int) := by
  unfold rhas at h
  simp at h
  obtain ⟨⟨⟨h1, h2⟩, h3⟩, h4⟩ := h
  refine ⟨(a - 2147483648).toNat, by omega, by omega, h1, ?_⟩
  have hh : rhas n a 1 = true := by unfold rhas; simp; omega
  unfold rpage
  rw [if_pos hh]
  omega
theorem vb_cs {w : World} {P : Nat → Prop} {A : Option Addr} {len cap : Nat} {v : Value} {l : List Int} {came : Nat} {q : List Int} {over : Bool} {out : List Int} {o m : Int} {s off : Bool} {code : Int} (h : VBus w P A len cap v l came q over out o m s off code) : ∃ cs', v = .agg cs' ∧ cs'.size = 11 ∧ cs'.all (·.oneCell') = true := by
  obtain ⟨Ab, cb, Ar, cr, Ao, co, rfl, _⟩ := h
  exact ⟨_, rfl, rfl, by simp [Value.oneCell']⟩
theorem conv_load {f : Nat} {args : Array Value} {w : World} {y : Int} {P : Nat → Prop} {A : Option Addr} {len cap : Nat} {l : List Int} {came : Nat} {q : List Int} {over : Bool} {out : List Int} {o m : Int} {s off : Bool} {code : Int} {QD : Array Value → World → Prop}
    (h : Calls Tryd.prog f args w fun e w' => ∃ v', e = .returned (.tuple #[v', .int .u32 y]) ∧ VBus w' P A len cap v' l came q over out o m s off code ∧ Below w.heap.size w w')
    (hQ : ∀ cs' w', VBus w' P A len cap (.agg cs') l came q over out o m s off code → Below w.heap.size w w' → QD cs' w') :
    Calls Tryd.prog f args w fun e w' => ∃ cs', e = .returned (.tuple #[.agg cs', .int .u32 y]) ∧ (cs'.size = 11 ∧ cs'.all (·.oneCell') = true) ∧ QD cs' w' ∧ Below w.heap.size w w' :=
  h.mono fun e w' ⟨v', he, hv, d⟩ => by
    obtain ⟨cs', rfl, h1, h2⟩ := vb_cs hv
    exact ⟨cs', he, ⟨h1, h2⟩, hQ _ _ hv d, d⟩
theorem conv_store {f : Nat} {args : Array Value} {w : World} {P : Nat → Prop} {A : Option Addr} {len cap : Nat} {l : List Int} {came : Nat} {q : List Int} {over : Bool} {out : List Int} {o m : Int} {s off : Bool} {code : Int} {QD : Array Value → World → Prop}
    (h : Calls Tryd.prog f args w fun e w' => ∃ v', e = .returned v' ∧ VBus w' P A len cap v' l came q over out o m s off code ∧ Below w.heap.size w w')
    (hQ : ∀ cs' w', VBus w' P A len cap (.agg cs') l came q over out o m s off code → Below w.heap.size w w' → QD cs' w') :
    Calls Tryd.prog f args w fun e w' => ∃ cs', e = .returned (.agg cs') ∧ (cs'.size = 11 ∧ cs'.all (·.oneCell') = true) ∧ QD cs' w' ∧ Below w.heap.size w w' :=
  h.mono fun e w' ⟨v', he, hv, d⟩ => by
    obtain ⟨cs', rfl, h1, h2⟩ := vb_cs hv
    exact ⟨cs', he, ⟨h1, h2⟩, hQ _ _ hv d, d⟩

section
variable {W w : World} {B R C T BB BW BG nr k : Nat} {A : Option Addr} {len cap : Nat} {al : List (Int × Int)} {bound : Nat} {v : Value}
theorem bstep_load (Z0 : Nat → Prop) (hP : Ports W) (h : SB W B R C T BB BW BG nr k A len cap al bound Z0 v w) (a mm x t : Int) (a0 : 0 ≤ a) (a1 : a < 4294967296) :
    Calls Tryd.prog 28 #[.pointer (some ⟨B, 0, none⟩), v, .agg #[.int .i64 1, .int .u32 a, .int .i64 mm, .int .u32 x, .int .u64 t]] w fun e w' => ∃ v', e = .returned (.tuple #[v', .bool true]) ∧ SB W B R C T BB BW BG nr k A len cap al (bound + 1) (fun _ => False) v' w' ∧ ∀ g, Z0 g → g < w.heap.size → w'.heap[g]? = w.heap[g]? := by
  obtain ⟨X, l, gs, came, q, over, out, o, m, s, off, code, hM, hV, ⟨hU, hm, hob⟩, hZ0⟩ := h
  have hp : Ports w := hP.below hM.bel
  have hln : l.length = nr := hM.r.nl
  have hl : l.length ≤ 65536 := by have := hM.n0; omega
  have hW := hM.bel.size
  have hYZ : ∀ i, YY B R BB BW BG T X i → ¬ N3 w.heap.size i := fun i hi hn => by have := hM.ylt i hi; have := hn.1; omega
  have hV1 : VBus w (YZ B R BB BW BG T X (N3 w.heap.size)) A len cap v l came q over out o m s off code := hV.on (U := fun _ => False) (OnlyP.refl _ _) (fun i hi => hi.elim) (fun i hi => by rcases hi with hi | hi; exact .inl (.inl hi); exact .inr hi.1)
  obtain ⟨Ab, cb, Ar, cr, Ao, co, rfl, v1, v2, v3⟩ := hV1
  have hV1 : VBus w (YZ B R BB BW BG T X (N3 w.heap.size)) A len cap _ l came q over out o m s off code := ⟨Ab, cb, Ar, cr, Ao, co, rfl, v1, v2, v3⟩
  have HC : Cs11 #[.slice Ab l.length cb, .slice A len cap, .int .i64 (came : Int), .slice Ar q.length cr, .bool over, .slice Ao out.length co, .int .u64 o, .int .u64 m, .bool s, .bool off, .int .u32 code] Ab l.length cb := ⟨rfl, by simp [Value.oneCell'], rfl⟩
  have HA := asks v1 hl a mm a0 a1
  rw [hln] at HA
  have HAsk : ∀ w', Below w.heap.size w w' → BAsk w' B a mm (basked nr a mm) (bclass nr a mm) (rdev a) := fun w' hb => (hM.below hb).ask (hp.below hb) a mm a0 a1
  have hcf := bclass_f l a mm hl a0 a1
  rw [hln] at hcf
  have HSD : ∀ c : Array Value, Stab w.heap.size (fun w' => SB W B R C T BB BW BG nr k A len cap al (bound + 1) (N3 w.heap.size) (.agg c) w') := fun c w' w'' hh ho => hh.stab hW ho
  -- the same on both sides
  have HS0 : Stab w.heap.size (fun w' => MB W w' B R C T BB BW BG nr k X l (List.replicate k false) gs al came q over out o m s off code ∧ VBus w' (YZ B R BB BW BG T X (N3 w.heap.size)) A len cap (.agg #[.slice Ab l.length cb, .slice A len cap, .int .i64 (came : Int), .slice Ar q.length cr, .bool over, .slice Ao out.length co, .int .u64 o, .int .u64 m, .bool s, .bool off, .int .u32 code]) l came q over out o m s off code) :=
    fun w' w'' hh ho => ⟨hh.1.move ho hYZ (fun i hi => Nat.le_trans hW hi.1), hh.2.on ho (fun i hi => .inr hi) (fun i hi => .inl hi)⟩
  have fin : ∀ {f : Nat} {args : Array Value}, (Calls Tryd.prog f args w fun e w' => ∃ cs', e = .returned (.tuple #[.agg cs', .bool true]) ∧ SB W B R C T BB BW BG nr k A len cap al (bound + 1) (N3 w.heap.size) (.agg cs') w' ∧ OnlyP (YY B R BB BW BG T X) w w') →
      Calls Tryd.prog f args w fun e w' => ∃ v', e = .returned (.tuple #[v', .bool true]) ∧ SB W B R C T BB BW BG nr k A len cap al (bound + 1) (fun _ => False) v' w' ∧ ∀ g, Z0 g → g < w.heap.size → w'.heap[g]? = w.heap[g]? := fun hc => hc.mono fun e w' ⟨cs', he, hs, ho⟩ => ⟨_, he, hs.free, fun g hz hg => ho.block g hg (fun hy => hZ0 g hy hz)⟩
  have keep : ∀ {cs' : Array Value} {w' w'' : World}, MB W w' B R C T BB BW BG nr k X l (List.replicate k false) gs al came q over out o m s off code → Below w'.heap.size w' w'' → VBus w'' (YZ B R BB BW BG T X (N3 w.heap.size)) A len cap (.agg cs') l came q over out o m s off code → SB W B R C T BB BW BG nr k A len cap al (bound + 1) (N3 w.heap.size) (.agg cs') w'' :=
    fun hm' d hv => ⟨X, l, gs, came, q, over, out, o, m, s, off, code, hm'.below d, hv, ⟨hU, hm, by omega⟩, hYZ⟩
  by_cases he : basked nr a mm = 0
  · rw [he] at HA HAsk
    rcases class_parts he with ⟨hc, hr, hra⟩ | ⟨hc, hd⟩
    · rw [hc] at HAsk hcf
      obtain ⟨j, kk, rfl, hk, ha0, hj, hjk, _⟩ := ask0 hra
      obtain ⟨r, hN, hL, r0, r1⟩ := load_f l a j kk hk ha0 a1 hj (by omega) hl hU
      refine fin (step_load_yes w B _ Ab nr cb r a kk x t 0 (by rw [← hln]; exact HC) _ hM.ylt _ HS0 _ HSD HA (fun w' hb hs => ?_) (fun w' ⟨hm', hv'⟩ hs => ?_))
      · refine (bload_mem w' B R C T off code a kk t (rdev a) 0 r (fun w'' => Below w'.heap.size w' w'') (hM.below hb).b (HAsk w' hb) (fun w2 hb2 => (load_yes (K := 60) w2 a j kk r 0 ((hM.below hb).below hb2).r hM.n0 ha0 a1 hra hj hjk (by omega) hN).mono fun e w3 ⟨he, d⟩ => ⟨he, below_on hb2 d.below⟩)).mono ?_
        rintro e w'' ⟨he, d⟩
        exact ⟨he, ⟨(hM.below hb).below d, (hV1.below hb).below d⟩, .of_below d⟩
      · exact conv_load (rload_mem w' _ A len cap _ l came q over out o m s off code a kk t r hv' hl hcf hL) fun cs' w'' hv d => keep hm' d hv
    · rw [hc] at HAsk hcf
      rcases hd with ⟨hv, rfl⟩ | ⟨hv, har⟩ | ⟨hv, har⟩
      · rw [hv] at HAsk
        refine fin (step_load_yes w B _ Ab nr cb 0 1048576 mm x t 0 (by rw [← hln]; exact HC) _ hM.ylt _ HS0 _ HSD HA (fun w' hb hs => ?_) (fun w' ⟨hm', hv'⟩ hs => ?_))
        · refine (bload_off w' B R C T off code 1048576 mm t (HAsk w' hb)).mono ?_
          rintro e w'' ⟨he, d⟩
          exact ⟨he, ⟨(hM.below hb).below d, (hV1.below hb).below d⟩, .of_below d⟩
        · exact conv_load (rload_off w' _ A len cap _ l came q over out o m s off code mm t hv' hl hcf) fun cs' w'' hv d => keep hm' d hv
      · rw [hv] at HAsk
        rcases har with rfl | rfl
        · have HS1 : Stab w.heap.size (fun w' => MB W w' B R C T BB BW BG nr k X l (List.replicate k false) gs al came q.tail over out o m s off code ∧ VBus w' (YZ B R BB BW BG T X (N3 w.heap.size)) A len cap (.agg #[.slice Ab l.length cb, .slice A len cap, .int .i64 (came : Int), .slice Ar q.length cr, .bool over, .slice Ao out.length co, .int .u64 o, .int .u64 m, .bool s, .bool off, .int .u32 code]) l came q over out o m s off code) :=
            fun w' w'' hh ho => ⟨hh.1.move ho hYZ (fun i hi => Nat.le_trans hW hi.1), hh.2.on ho (fun i hi => .inr hi) (fun i hi => .inl hi)⟩
          refine fin (step_load_yes w B _ Ab nr cb (q.headD 0) 268435456 mm x t 0 (by rw [← hln]; exact HC) _ hM.ylt _ HS1 _ HSD HA (fun w' hb hs => ?_) (fun w' ⟨hm', hv'⟩ hs => ?_))
          · refine (bload_con w' B R C T off code 268435456 mm t 0 (q.headD 0) 0 (fun w'' => KC W w'' X C al came q.tail over out ∧ OnlyP X w' w'') (hM.below hb).b (HAsk w' hb) (.inl ⟨rfl, rfl⟩) (fun w2 hb2 => (kc_read0 ((hM.below hb).below hb2).c).mono fun e w3 ⟨he, h1, ho⟩ => ⟨he, h1, (OnlyP.of_below hb2).trans ho⟩)).mono ?_
            rintro e w'' ⟨he, h1, ho⟩
            have hy : OnlyP (YY B R BB BW BG T X) w' w'' := ho.weaken fun i hi => .inr (.inr (.inr (.inr (.inr (.inr hi)))))
            exact ⟨he, ⟨(hM.below hb).con h1 ho (fun i hi => .inl hi), (hV1.below hb).on hy (fun i hi => .inl hi) (fun i hi => .inl hi)⟩, hy⟩
          · exact conv_load (rload_con0 w' _ A len cap _ l came q over out o m s off code mm t hv' hl ⟨hM.c.q256, hM.c.q16⟩ hcf) fun cs' w'' hv d => ⟨X, l, gs, came, q.tail, over, out, o, m, s, off, code, hm'.below d, hv, ⟨hU, hm, by omega⟩, hYZ⟩
        · refine fin (step_load_yes w B _ Ab nr cb ((if 0 < q.length then 1 else 0) + (if over then 2 else 0)) 268435460 mm x t 0 (by rw [← hln]; exact HC) _ hM.ylt _ HS0 _ HSD HA (fun w' hb hs => ?_) (fun w' ⟨hm', hv'⟩ hs => ?_))
          · refine (bload_con w' B R C T off code 268435460 mm t 4 ((if 0 < q.length then 1 else 0) + (if over then 2 else 0)) 0 (fun w'' => Below w'.heap.size w' w'') (hM.below hb).b (HAsk w' hb) (.inr ⟨rfl, rfl⟩) (fun w2 hb2 => (kc_read4 ((hM.below hb).below hb2).c).mono fun e w3 ⟨he, d⟩ => ⟨he, below_on hb2 d.below⟩)).mono ?_
            rintro e w'' ⟨he, d⟩
            exact ⟨he, ⟨(hM.below hb).below d, (hV1.below hb).below d⟩, .of_below d⟩
          · exact conv_load (rload_con4 w' _ A len cap _ l came q over out o m s off code mm t hv' hl hM.c.q16 hcf) fun cs' w'' hv d => keep hm' d hv
      · refine fin (step_load_yes w B _ Ab nr cb (rval o m a t s) a mm x t 0 (by rw [← hln]; exact HC) _ hM.ylt _ HS0 _ HSD HA (fun w' hb hs => ?_) (fun w' ⟨hm', hv'⟩ hs => ?_))
        · refine (bload_tim w' B R C T off code a mm t (rdev a) 0 (rval o m a t s) (fun w'' => Below w'.heap.size w' w'') (hM.below hb).b (HAsk w' hb) (beq_eq_false_iff_ne.2 (by omega)) (beq_eq_false_iff_ne.2 (by omega)) (fun w2 hb2 => (tread_calls w2 T o m a t s ((hM.below hb).below hb2).t har hm.1 hm.2).mono fun e w3 ⟨he, d⟩ => ⟨he, below_on hb2 d.below⟩)).mono ?_
          rintro e w'' ⟨he, d⟩
          exact ⟨he, ⟨(hM.below hb).below d, (hV1.below hb).below d⟩, .of_below d⟩
        · exact conv_load (rload_tim w' _ A len cap _ l came q over out o m s off code a mm t (rval o m a t s) hv' hl hcf (regs_ne har) (regs_has har) (ref_read o m a t s hm.1 hm.2)) fun cs' w'' hv d => keep hm' d hv
  · have hz : (basked nr a mm != 0) = true := by simpa using he
    refine (step_load_no w B _ Ab nr cb a mm x t _ (by rw [← hln]; exact HC) hz _ hM.ylt _ HS0 HA (fun w' hb hs => ?_)).mono ?_
    · refine (bload_no w' B a mm t _ _ _ (HAsk w' hb) hz).mono ?_
      rintro e w'' ⟨he, d⟩
      exact ⟨he, ⟨(hM.below hb).below d, (hV1.below hb).below d⟩, .of_below d⟩
    · rintro e w' ⟨cs', he, ⟨rfl, h1, h2⟩, ho⟩
      exact ⟨_, he, SB.free (Z := N3 w.heap.size) ⟨X, l, gs, came, q, over, out, o, m, s, off, code, h1, h2, ⟨hU, hm, by omega⟩, hYZ⟩, fun g hz hg => ho.block g hg (fun hy => hZ0 g hy hz)⟩
end
end Go.Proofs.YtdalboofhckobaaDoor

namespace Go.Proofs.YtdalboofhckobaaDoor
open Go Go.RowKit Go.Deep Go.Proofs.YtdalboofhckobaaDoorW.PrintWords Go.Proofs.YtdalboofhckobaaDoor.QBusPlays Go.Proofs.YtdalboofhckobaaDoor.FQBusPlays
set_option linter.unusedVariables false
set_option linter.unusedSimpArgs false

section
variable {W w : World} {B R C T BB BW BG nr k : Nat} {A : Option Addr} {len cap : Nat} {al : List (Int × Int)} {bound : Nat} {v : Value}
theorem bstep_store (Z0 : Nat → Prop) (hP : Ports W) (hk : k * 64 = nr) (hbd : bound ≤ 60000) (h : SB W B R C T BB BW BG nr k A len cap al bound Z0 v w) (a mm x t : Int) (a0 : 0 ≤ a) (a1 : a < 4294967296) (x0 : 0 ≤ x) (x1 : x < 4294967296) :
    Calls Tryd.prog 28 #[.pointer (some ⟨B, 0, none⟩), v, .agg #[.int .i64 2, .int .u32 a, .int .i64 mm, .int .u32 x, .int .u64 t]] w fun e w' => ∃ v', e = .returned (.tuple #[v', .bool true]) ∧ SB W B R C T BB BW BG nr k A len cap al (bound + 1) (fun _ => False) v' w' ∧ ∀ g, Z0 g → g < w.heap.size → w'.heap[g]? = w.heap[g]? := by
  obtain ⟨X, l, gs, came, q, over, out, o, m, s, off, code, hM, hV, ⟨hU, hm, hob⟩, hZ0⟩ := h
  have hp : Ports w := hP.below hM.bel
  have hln : l.length = nr := hM.r.nl
  have hl : l.length ≤ 65536 := by have := hM.n0; omega
  have hW := hM.bel.size
  have hYZ : ∀ i, YY B R BB BW BG T X i → ¬ N3 w.heap.size i := fun i hi hn => by have := hM.ylt i hi; have := hn.1; omega
  have hV1 : VBus w (YZ B R BB BW BG T X (N3 w.heap.size)) A len cap v l came q over out o m s off code := hV.on (U := fun _ => False) (OnlyP.refl _ _) (fun i hi => hi.elim) (fun i hi => by rcases hi with hi | hi; exact .inl (.inl hi); exact .inr hi.1)
  obtain ⟨Ab, cb, Ar, cr, Ao, co, rfl, v1, v2, v3⟩ := hV1
  have hV1 : VBus w (YZ B R BB BW BG T X (N3 w.heap.size)) A len cap _ l came q over out o m s off code := ⟨Ab, cb, Ar, cr, Ao, co, rfl, v1, v2, v3⟩
  have HC : Cs11 #[.slice Ab l.length cb, .slice A len cap, .int .i64 (came : Int), .slice Ar q.length cr, .bool over, .slice Ao out.length co, .int .u64 o, .int .u64 m, .bool s, .bool off, .int .u32 code] Ab l.length cb := ⟨rfl, by simp [Value.oneCell'], rfl⟩
  have HA := asks v1 hl a mm a0 a1
  rw [hln] at HA
  have HAsk : ∀ w', Below w.heap.size w w' → BAsk w' B a mm (basked nr a mm) (bclass nr a mm) (rdev a) := fun w' hb => (hM.below hb).ask (hp.below hb) a mm a0 a1
  have hcf := bclass_f l a mm hl a0 a1
  rw [hln] at hcf
  have HSD : ∀ c : Array Value, Stab w.heap.size (fun w' => SB W B R C T BB BW BG nr k A len cap al (bound + 1) (N3 w.heap.size) (.agg c) w') := fun c w' w'' hh ho => hh.stab hW ho
  -- the same on both sides
  have HS0 : Stab w.heap.size (fun w' => MB W w' B R C T BB BW BG nr k X l (List.replicate k false) gs al came q over out o m s off code ∧ VBus w' (YZ B R BB BW BG T X (N3 w.heap.size)) A len cap (.agg #[.slice Ab l.length cb, .slice A len cap, .int .i64 (came : Int), .slice Ar q.length cr, .bool over, .slice Ao out.length co, .int .u64 o, .int .u64 m, .bool s, .bool off, .int .u32 code]) l came q over out o m s off code) :=
    fun w' w'' hh ho => ⟨hh.1.move ho hYZ (fun i hi => Nat.le_trans hW hi.1), hh.2.on ho (fun i hi => .inr hi) (fun i hi => .inl hi)⟩
  have fin : ∀ {f : Nat} {args : Array Value}, (Calls Tryd.prog f args w fun e w' => ∃ cs', e = .returned (.tuple #[.agg cs', .bool true]) ∧ SB W B R C T BB BW BG nr k A len cap al (bound + 1) (N3 w.heap.size) (.agg cs') w' ∧ OnlyP (YY B R BB BW BG T X) w w') →
      Calls Tryd.prog f args w fun e w' => ∃ v', e = .returned (.tuple #[v', .bool true]) ∧ SB W B R C T BB BW BG nr k A len cap al (bound + 1) (fun _ => False) v' w' ∧ ∀ g, Z0 g → g < w.heap.size → w'.heap[g]? = w.heap[g]? := fun hc => hc.mono fun e w' ⟨cs', he, hs, ho⟩ => ⟨_, he, hs.free, fun g hz hg => ho.block g hg (fun hy => hZ0 g hy hz)⟩
  have keep : ∀ {cs' : Array Value} {w' w'' : World}, MB W w' B R C T BB BW BG nr k X l (List.replicate k false) gs al came q over out o m s off code → Below w'.heap.size w' w'' → VBus w'' (YZ B R BB BW BG T X (N3 w.heap.size)) A len cap (.agg cs') l came q over out o m s off code → SB W B R C T BB BW BG nr k A len cap al (bound + 1) (N3 w.heap.size) (.agg cs') w'' :=
    fun hm' d hv => ⟨X, l, gs, came, q, over, out, o, m, s, off, code, hm'.below d, hv, ⟨hU, hm, by omega⟩, hYZ⟩
  have hxlt : ∀ w', MB W w' B R C T BB BW BG nr k X l (List.replicate k false) gs al came q over out o m s off code → w.heap.size + 3 ≤ w'.heap.size → ∀ i, YZ B R BB BW BG T X (N3 w.heap.size) i → i < w'.heap.size := fun w' hm' hs i hi => by
    rcases hi with hi | hi
    · exact hm'.ylt i hi
    · have := hi.2; omega
  by_cases he : basked nr a mm = 0
  · rw [he] at HA HAsk
    rcases class_parts he with ⟨hc, hr, hra⟩ | ⟨hc, hd⟩
    · rw [hc] at HAsk hcf
      obtain ⟨j, kk, rfl, hkk, ha0, hj, hjk, _⟩ := ask0 hra
      obtain ⟨j', hj', _, _, hpg⟩ := rpage_num nr a kk hr
      obtain rfl : j' = j := by omega
      obtain ⟨bs, hb1, hb2, hbl, hbu⟩ := bytes_f x kk hkk x0 x1
      subst hbl
      have hput := put_f l bs a j' ha0 a1 hj (by omega) hl
      have hlen := put_length l bs j' (by omega)
      obtain ⟨g, hg⟩ : ∃ g, gs[j' / 64]? = some g := ⟨_, List.getElem?_eq_getElem (by rw [hM.r.ng]; omega)⟩
      have hwp : (List.replicate k false)[j' / 64]? = some false := by rw [List.getElem?_replicate, if_pos (by omega)]
      have HS1 : Stab w.heap.size (fun w' => MB W w' B R C T BB BW BG nr k X (l.take j' ++ bs ++ l.drop (j' + bs.length)) (List.replicate k false) gs al came q over out o m s off code ∧ VBus w' (YZ B R BB BW BG T X (N3 w.heap.size)) A len cap (.agg #[.slice Ab l.length cb, .slice A len cap, .int .i64 (came : Int), .slice Ar q.length cr, .bool over, .slice Ao out.length co, .int .u64 o, .int .u64 m, .bool s, .bool off, .int .u32 code]) l came q over out o m s off code) :=
        fun w' w'' hh ho => ⟨hh.1.move ho hYZ (fun i hi => Nat.le_trans hW hi.1), hh.2.on ho (fun i hi => .inr hi) (fun i hi => .inl hi)⟩
      refine fin (step_store_yes w B _ Ab nr cb a bs.length x t 0 (by rw [← hln]; exact HC) _ hM.ylt _ HS1 _ HSD HA (fun w' hb hs => ?_) (fun w' ⟨hm', hv'⟩ hs => ?_))
      · refine (bstore_mem w' B R C T off code a bs.length x t (rdev a) 0 false (fun w'' => IsRam w'' R BB BW BG nr k (l.take j' ++ bs ++ l.drop (j' + bs.length)) (List.replicate k false) gs ∧ OnlyP (fun b => b = BB ∨ b = BW ∨ b = BG) w' w'') (hM.below hb).b (HAsk w' hb) (fun w2 hb2 => (store_yes (K := 60) w2 a x j' bs.length (j' / 64) bs 0 g false ((hM.below hb).below hb2).r hM.n0 ha0 a1 hra hj (by omega) (by omega) hpg (by omega) hwp rfl hg hb1).mono fun e w3 ⟨he, h1, h2⟩ => ⟨he, by simpa using h1, (OnlyP.of_below hb2).trans h2⟩)).mono ?_
        rintro e w'' ⟨he, h1, ho⟩
        have hy : OnlyP (YY B R BB BW BG T X) w' w'' := ho.weaken fun i hi => by rcases hi with rfl | rfl | rfl; exact .inr (.inr (.inl rfl)); exact .inr (.inr (.inr (.inl rfl))); exact .inr (.inr (.inr (.inr (.inl rfl))))
        exact ⟨he, ⟨(hM.below hb).ram h1 ho, (hV1.below hb).on hy (fun i hi => .inl hi) (fun i hi => .inl hi)⟩, hy⟩
      · exact conv_store (rstore_mem w' _ A len cap _ l came q over out o m s off code a bs.length x t hv' hl bs _ hb2 hput hlen (fun i hi => by
          rcases hi with hi | hi
          · exact hm'.ylt i hi
          · have := hi.2; omega) hcf) fun cs' w'' hv d => ⟨X, _, gs, came, q, over, out, o, m, s, off, code, hm'.below d, hv, ⟨hU.put hbu _ _, hm, by omega⟩, hYZ⟩
    · rw [hc] at HAsk hcf
      rcases hd with ⟨hv, rfl⟩ | ⟨hv, har⟩ | ⟨hv, har⟩
      · rw [hv] at HAsk
        have HS1 : Stab w.heap.size (fun w' => MB W w' B R C T BB BW BG nr k X l (List.replicate k false) gs al came q over out o m s true x ∧ VBus w' (YZ B R BB BW BG T X (N3 w.heap.size)) A len cap (.agg #[.slice Ab l.length cb, .slice A len cap, .int .i64 (came : Int), .slice Ar q.length cr, .bool over, .slice Ao out.length co, .int .u64 o, .int .u64 m, .bool s, .bool off, .int .u32 code]) l came q over out o m s off code) :=
          fun w' w'' hh ho => ⟨hh.1.move ho hYZ (fun i hi => Nat.le_trans hW hi.1), hh.2.on ho (fun i hi => .inr hi) (fun i hi => .inl hi)⟩
        refine fin (step_store_yes w B _ Ab nr cb 1048576 mm x t 0 (by rw [← hln]; exact HC) _ hM.ylt _ HS1 _ HSD HA (fun w' hb hs => ?_) (fun w' ⟨hm', hv'⟩ hs => ?_))
        · refine (bstore_off w' B R C T off code 1048576 mm x t (hM.below hb).b (HAsk w' hb)).mono ?_
          rintro e w'' ⟨he, h1, ho⟩
          have hy : OnlyP (YY B R BB BW BG T X) w' w'' := .of_only ho (.inl rfl)
          exact ⟨he, ⟨(hM.below hb).offed h1 ho, (hV1.below hb).on hy (fun i hi => .inl hi) (fun i hi => .inl hi)⟩, hy⟩
        · exact conv_store (rstore_off w' _ A len cap _ l came q over out o m s off code mm x t hv' hl hcf) fun cs' w'' hv d => ⟨X, l, gs, came, q, over, out, o, m, s, true, x, hm'.below d, hv, ⟨hU, hm, by omega⟩, hYZ⟩
      · rw [hv] at HAsk
        rcases har with rfl | rfl
        · have HS1 : Stab w.heap.size (fun w' => ∃ X' : Nat → Prop, (∀ i, YY B R BB BW BG T X' i → ¬ N3 w.heap.size i) ∧ MB W w' B R C T BB BW BG nr k X' l (List.replicate k false) gs al came q over (out ++ [x % 256]) o m s off code ∧ VBus w' (YZ B R BB BW BG T X' (N3 w.heap.size)) A len cap (.agg #[.slice Ab l.length cb, .slice A len cap, .int .i64 (came : Int), .slice Ar q.length cr, .bool over, .slice Ao out.length co, .int .u64 o, .int .u64 m, .bool s, .bool off, .int .u32 code]) l came q over out o m s off code) :=
            fun w' w'' ⟨X', hy', hh1, hh2⟩ ho => ⟨X', hy', hh1.move ho hy' (fun i hi => Nat.le_trans hW hi.1), hh2.on ho (fun i hi => .inr hi) (fun i hi => .inl hi)⟩
          refine fin (step_store_yes w B _ Ab nr cb 268435456 mm x t 0 (by rw [← hln]; exact HC) _ hM.ylt _ HS1 _ HSD HA (fun w' hb hs => ?_) (fun w' ⟨X', hy', hm', hv'⟩ hs => ?_))
          · refine (bstore_con w' B R C T off code 268435456 mm x t 0 0 (fun w'' => ∃ X', KC W w'' X' C al came q over (out ++ [x % 256]) ∧ (∀ i, X' i → X i ∨ w'.heap.size ≤ i) ∧ OnlyP X w' w'') (hM.below hb).b (HAsk w' hb) (.inl ⟨rfl, rfl⟩) (fun w2 hb2 => (kc_write0 x ((hM.below hb).below hb2).c x0 x1 (by omega)).mono fun e w3 ⟨he, ⟨X', h1, h2, h3⟩, ho⟩ => ⟨he, X', h1, fun i hi => (h3 i hi).imp id (fun h => Nat.le_trans hb2.size h), (OnlyP.of_below hb2).trans ho⟩)).mono ?_
            rintro e w'' ⟨he, X', h1, hx, ho⟩
            have hy : OnlyP (YY B R BB BW BG T X) w' w'' := ho.weaken fun i hi => .inr (.inr (.inr (.inr (.inr (.inr hi)))))
            have hY' : ∀ i, YY B R BB BW BG T X' i → YY B R BB BW BG T X i ∨ w'.heap.size ≤ i := fun i hi => by
              rcases hi with hi | hi | hi | hi | hi | hi | hi
              · exact .inl (.inl hi)
              · exact .inl (.inr (.inl hi))
              · exact .inl (.inr (.inr (.inl hi)))
              · exact .inl (.inr (.inr (.inr (.inl hi))))
              · exact .inl (.inr (.inr (.inr (.inr (.inl hi)))))
              · exact .inl (.inr (.inr (.inr (.inr (.inr (.inl hi))))))
              · exact (hx i hi).imp (fun h => .inr (.inr (.inr (.inr (.inr (.inr h)))))) id
            exact ⟨he, ⟨X', fun i hi hn => by
              rcases hY' i hi with h | h
              · exact hYZ i h hn
              · have := hn.2; omega, (hM.below hb).con h1 ho hx, (hV1.below hb).on hy (fun i hi => .inl hi) (fun i hi => by
                rcases hi with hi | hi
                · exact (hY' i hi).imp .inl id
                · exact .inl (.inr hi))⟩, hy⟩
          · exact conv_store (rstore_con0 w' _ A len cap _ l came q over out o m s off code mm x t hv' hl ⟨fun i hi => by
              rcases hi with hi | hi
              · exact hm'.ylt i hi
              · have := hi.2; omega, x0, x1, by omega⟩ hcf) fun cs' w'' hv d => ⟨X', l, gs, came, q, over, _, o, m, s, off, code, hm'.below d, hv, ⟨hU, hm, by simp; omega⟩, hy'⟩
        · have HS1 : Stab w.heap.size (fun w' => MB W w' B R C T BB BW BG nr k X l (List.replicate k false) gs al came q false out o m s off code ∧ VBus w' (YZ B R BB BW BG T X (N3 w.heap.size)) A len cap (.agg #[.slice Ab l.length cb, .slice A len cap, .int .i64 (came : Int), .slice Ar q.length cr, .bool over, .slice Ao out.length co, .int .u64 o, .int .u64 m, .bool s, .bool off, .int .u32 code]) l came q over out o m s off code) :=
          fun w' w'' hh ho => ⟨hh.1.move ho hYZ (fun i hi => Nat.le_trans hW hi.1), hh.2.on ho (fun i hi => .inr hi) (fun i hi => .inl hi)⟩
          refine fin (step_store_yes w B _ Ab nr cb 268435460 mm x t 0 (by rw [← hln]; exact HC) _ hM.ylt _ HS1 _ HSD HA (fun w' hb hs => ?_) (fun w' ⟨hm', hv'⟩ hs => ?_))
          · refine (bstore_con w' B R C T off code 268435460 mm x t 4 0 (fun w'' => KC W w'' X C al came q false out ∧ OnlyP X w' w'') (hM.below hb).b (HAsk w' hb) (.inr ⟨rfl, rfl⟩) (fun w2 hb2 => (kc_write4 x ((hM.below hb).below hb2).c).mono fun e w3 ⟨he, h1, ho⟩ => ⟨he, h1, (OnlyP.of_below hb2).trans ho⟩)).mono ?_
            rintro e w'' ⟨he, h1, ho⟩
            have hy : OnlyP (YY B R BB BW BG T X) w' w'' := ho.weaken fun i hi => .inr (.inr (.inr (.inr (.inr (.inr hi)))))
            exact ⟨he, ⟨(hM.below hb).con h1 ho (fun i hi => .inl hi), (hV1.below hb).on hy (fun i hi => .inl hi) (fun i hi => .inl hi)⟩, hy⟩
          · exact conv_store (rstore_con4 w' _ A len cap _ l came q over out o m s off code mm x t hv' hl ⟨fun i hi => by
              rcases hi with hi | hi
              · exact hm'.ylt i hi
              · have := hi.2; omega, trivial⟩ hcf) fun cs' w'' hv d => ⟨X, l, gs, came, q, false, out, o, m, s, off, code, hm'.below d, hv, ⟨hU, hm, by omega⟩, hYZ⟩
      · have HS1 : Stab w.heap.size (fun w' => MB W w' B R C T BB BW BG nr k X l (List.replicate k false) gs al came q over out (twO o m a x t) (twM m a x) (twS s a x) off code ∧ VBus w' (YZ B R BB BW BG T X (N3 w.heap.size)) A len cap (.agg #[.slice Ab l.length cb, .slice A len cap, .int .i64 (came : Int), .slice Ar q.length cr, .bool over, .slice Ao out.length co, .int .u64 o, .int .u64 m, .bool s, .bool off, .int .u32 code]) l came q over out o m s off code) :=
          fun w' w'' hh ho => ⟨hh.1.move ho hYZ (fun i hi => Nat.le_trans hW hi.1), hh.2.on ho (fun i hi => .inr hi) (fun i hi => .inl hi)⟩
        refine fin (step_store_yes w B _ Ab nr cb a mm x t 0 (by rw [← hln]; exact HC) _ hM.ylt _ HS1 _ HSD HA (fun w' hb hs => ?_) (fun w' ⟨hm', hv'⟩ hs => ?_))
        · refine (bstore_tim w' B R C T off code a mm x t (rdev a) 0 (fun w'' => IsT w'' T (twO o m a x t) (twM m a x) (twS s a x) ∧ Only T w' w'') (hM.below hb).b (HAsk w' hb) (beq_eq_false_iff_ne.2 (by omega)) (beq_eq_false_iff_ne.2 (by omega)) (fun w2 hb2 => (twrite_calls w2 T o m a x t s ((hM.below hb).below hb2).t har x0 x1).mono fun e w3 ⟨he, h1, ho⟩ => ⟨he, h1, (Only.of_below hb2).trans ho⟩)).mono ?_
          rintro e w'' ⟨he, h1, ho⟩
          have hy : OnlyP (YY B R BB BW BG T X) w' w'' := .of_only ho (.inr (.inr (.inr (.inr (.inr (.inl rfl))))))
          exact ⟨he, ⟨(hM.below hb).tim h1 ho, (hV1.below hb).on hy (fun i hi => .inl hi) (fun i hi => .inl hi)⟩, hy⟩
        · exact conv_store (rstore_tim w' _ A len cap _ l came q over out o m s off code a mm x t hv' hl _ _ _ (regs_ne har) (regs_has har) (ref_write o m a x t s har hm.1 hm.2 x0 x1) hcf) fun cs' w'' hv d => ⟨X, l, gs, came, q, over, out, _, _, _, off, code, hm'.below d, hv, ⟨hU, twM_lt hm.1 hm.2 x0 x1, by omega⟩, hYZ⟩
  · have hz : (basked nr a mm != 0) = true := by simpa using he
    refine (step_store_no w B _ Ab nr cb a mm x t _ (by rw [← hln]; exact HC) hz _ hM.ylt _ HS0 HA (fun w' hb hs => ?_)).mono ?_
    · refine (bstore_no w' B a mm x t _ _ _ (HAsk w' hb) hz).mono ?_
      rintro e w'' ⟨he, d⟩
      exact ⟨he, ⟨(hM.below hb).below d, (hV1.below hb).below d⟩, .of_below d⟩
    · rintro e w' ⟨cs', he, ⟨rfl, h1, h2⟩, ho⟩
      exact ⟨_, he, SB.free (Z := N3 w.heap.size) ⟨X, l, gs, came, q, over, out, o, m, s, off, code, h1, h2, ⟨hU, hm, by omega⟩, hYZ⟩, fun g hz hg => ho.block g hg (fun hy => hZ0 g hy hz)⟩
theorem bstep_up (Z0 : Nat → Prop) (hP : Ports W) (h : SB W B R C T BB BW BG nr k A al.length cap al bound Z0 v w) (hAR : AR W A al) (hll : al.length ≤ 256) (a mm x t : Int) (a0 : 0 ≤ a) (a1 : a < 4294967296) (t0 : 0 ≤ t) (t1 : t < 18446744073709551616) :
    Calls Tryd.prog 28 #[.pointer (some ⟨B, 0, none⟩), v, .agg #[.int .i64 3, .int .u32 a, .int .i64 mm, .int .u32 x, .int .u64 t]] w fun e w' => ∃ v', e = .returned (.tuple #[v', .bool true]) ∧ SB W B R C T BB BW BG nr k A al.length cap al (bound + 1) (fun _ => False) v' w' ∧ ∀ g, Z0 g → g < w.heap.size → w'.heap[g]? = w.heap[g]? := by
  obtain ⟨X, l, gs, came, q, over, out, o, m, s, off, code, hM, hV, ⟨hU, hm, hob⟩, hZ0⟩ := h
  have hp : Ports w := hP.below hM.bel
  have hln : l.length = nr := hM.r.nl
  have hl : l.length ≤ 65536 := by have := hM.n0; omega
  have hW := hM.bel.size
  have hYZ : ∀ i, YY B R BB BW BG T X i → ¬ N3 w.heap.size i := fun i hi hn => by have := hM.ylt i hi; have := hn.1; omega
  have hV1 : VBus w (YZ B R BB BW BG T X (N3 w.heap.size)) A al.length cap v l came q over out o m s off code := hV.on (U := fun _ => False) (OnlyP.refl _ _) (fun i hi => hi.elim) (fun i hi => by rcases hi with hi | hi; exact .inl (.inl hi); exact .inr hi.1)
  obtain ⟨Ab, cb, Ar, cr, Ao, co, rfl, v1, v2, v3⟩ := hV1
  have hV1 : VBus w (YZ B R BB BW BG T X (N3 w.heap.size)) A al.length cap _ l came q over out o m s off code := ⟨Ab, cb, Ar, cr, Ao, co, rfl, v1, v2, v3⟩
  have HC : Cs11 #[.slice Ab l.length cb, .slice A al.length cap, .int .i64 (came : Int), .slice Ar q.length cr, .bool over, .slice Ao out.length co, .int .u64 o, .int .u64 m, .bool s, .bool off, .int .u32 code] Ab l.length cb := ⟨rfl, by simp [Value.oneCell'], rfl⟩
  have HA := asks v1 hl a mm a0 a1
  rw [hln] at HA
  have HAsk : ∀ w', Below w.heap.size w w' → BAsk w' B a mm (basked nr a mm) (bclass nr a mm) (rdev a) := fun w' hb => (hM.below hb).ask (hp.below hb) a mm a0 a1
  have hcf := bclass_f l a mm hl a0 a1
  rw [hln] at hcf
  have HSD : ∀ c : Array Value, Stab w.heap.size (fun w' => SB W B R C T BB BW BG nr k A al.length cap al (bound + 1) (N3 w.heap.size) (.agg c) w') := fun c w' w'' hh ho => hh.stab hW ho
  -- the same on both sides
  have HS0 : Stab w.heap.size (fun w' => MB W w' B R C T BB BW BG nr k X l (List.replicate k false) gs al came q over out o m s off code ∧ VBus w' (YZ B R BB BW BG T X (N3 w.heap.size)) A al.length cap (.agg #[.slice Ab l.length cb, .slice A al.length cap, .int .i64 (came : Int), .slice Ar q.length cr, .bool over, .slice Ao out.length co, .int .u64 o, .int .u64 m, .bool s, .bool off, .int .u32 code]) l came q over out o m s off code) :=
    fun w' w'' hh ho => ⟨hh.1.move ho hYZ (fun i hi => Nat.le_trans hW hi.1), hh.2.on ho (fun i hi => .inr hi) (fun i hi => .inl hi)⟩
  have fin : ∀ {f : Nat} {args : Array Value}, (Calls Tryd.prog f args w fun e w' => ∃ cs', e = .returned (.tuple #[.agg cs', .bool true]) ∧ SB W B R C T BB BW BG nr k A al.length cap al (bound + 1) (N3 w.heap.size) (.agg cs') w' ∧ OnlyP (YY B R BB BW BG T X) w w') →
      Calls Tryd.prog f args w fun e w' => ∃ v', e = .returned (.tuple #[v', .bool true]) ∧ SB W B R C T BB BW BG nr k A al.length cap al (bound + 1) (fun _ => False) v' w' ∧ ∀ g, Z0 g → g < w.heap.size → w'.heap[g]? = w.heap[g]? := fun hc => hc.mono fun e w' ⟨cs', he, hs, ho⟩ => ⟨_, he, hs.free, fun g hz hg => ho.block g hg (fun hy => hZ0 g hy hz)⟩
  have keep : ∀ {cs' : Array Value} {w' w'' : World}, MB W w' B R C T BB BW BG nr k X l (List.replicate k false) gs al came q over out o m s off code → Below w'.heap.size w' w'' → VBus w'' (YZ B R BB BW BG T X (N3 w.heap.size)) A al.length cap (.agg cs') l came q over out o m s off code → SB W B R C T BB BW BG nr k A al.length cap al (bound + 1) (N3 w.heap.size) (.agg cs') w'' :=
    fun hm' d hv => ⟨X, l, gs, came, q, over, out, o, m, s, off, code, hm'.below d, hv, ⟨hU, hm, by omega⟩, hYZ⟩
  have HS1 : Stab w.heap.size (fun w' => MB W w' B R C T BB BW BG nr k X l (List.replicate k false) gs al (upL t (al.drop came) (came, q, over)).1 (upL t (al.drop came) (came, q, over)).2.1 (upL t (al.drop came) (came, q, over)).2.2 out o m s off code ∧ VBus w' (YZ B R BB BW BG T X (N3 w.heap.size)) A al.length cap (.agg #[.slice Ab l.length cb, .slice A al.length cap, .int .i64 (came : Int), .slice Ar q.length cr, .bool over, .slice Ao out.length co, .int .u64 o, .int .u64 m, .bool s, .bool off, .int .u32 code]) l came q over out o m s off code) :=
          fun w' w'' hh ho => ⟨hh.1.move ho hYZ (fun i hi => Nat.le_trans hW hi.1), hh.2.on ho (fun i hi => .inr hi) (fun i hi => .inl hi)⟩
  refine fin (step_up w B _ Ab nr cb a mm x t _ (by rw [← hln]; exact HC) (.slice A al.length cap) (.int .i64 (came : Int)) (.slice Ar q.length cr) (.bool over) (.slice Ao out.length co) (fun j u hu => ?_) C _ hM.ylt _ HS1 _ HSD HA (fun w' hb => bcon_calls w' (hM.below hb).b) (fun w' hb hs => ?_) (fun w' ⟨hm', hv'⟩ hs => ?_))
  · match j, hu with
    | 0, hu => exact hu
    | 1, hu => exact hu
    | 2, hu => exact hu
    | 3, hu => exact hu
    | 4, hu => exact hu
    | _ + 5, hu => simp at hu
  · refine (kc_up t t0 t1 (hM.below hb).c).mono ?_
    rintro e w'' ⟨he, h1, ho⟩
    have hy : OnlyP (YY B R BB BW BG T X) w' w'' := ho.weaken fun i hi => .inr (.inr (.inr (.inr (.inr (.inr hi)))))
    exact ⟨he, ⟨(hM.below hb).con h1 ho (fun i hi => .inl hi), (hV1.below hb).on hy (fun i hi => .inl hi) (fun i hi => .inl hi)⟩, hy⟩
  · obtain ⟨Ab', cb', Ar', cr', Ao', co', hev, v1', v2', v3'⟩ := hv'
    simp only [Value.agg.injEq, Array.mk.injEq, List.cons.injEq, Value.slice.injEq, and_true, true_and] at hev
    obtain ⟨⟨rfl, rfl⟩, ⟨rfl, rfl⟩, rfl, rfl⟩ := hev
    have hAR' : AR w' A al := hAR.below (hm'.bel)
    refine (rup_calls w' (YZ B R BB BW BG T X (N3 w.heap.size)) (fun i hi => by
      rcases hi with hi | hi
      · exact hm'.ylt i hi
      · have := hi.2; omega) A cap came al q over out _ t hll hM.c.lc hAR' ⟨Ar, cr, Ao, co, rfl, v2', v3'⟩ hM.c.q16).mono ?_
    rintro e w'' ⟨v', he, ⟨Ar2, cr2, Ao2, co2, rfl, hv2, hv3⟩, d⟩
    exact ⟨_, _, _, _, _, he, ⟨rfl, rfl, rfl, rfl, rfl⟩, ⟨X, l, gs, _, _, _, out, o, m, s, off, code, hm'.below d, ⟨Ab, cb, Ar2, cr2, Ao2, co2, rfl, v1'.below d, hv2, hv3⟩, ⟨hU, hm, by omega⟩, hYZ⟩, d⟩
theorem bstep_other (Z0 : Nat → Prop) (hP : Ports W) (h : SB W B R C T BB BW BG nr k A len cap al bound Z0 v w) (kd a mm x t : Int) (h1 : (kd == 1) = false) (h2 : (kd == 2) = false) (h3 : (kd == 3) = false) (a0 : 0 ≤ a) (a1 : a < 4294967296) :
    Calls Tryd.prog 28 #[.pointer (some ⟨B, 0, none⟩), v, .agg #[.int .i64 kd, .int .u32 a, .int .i64 mm, .int .u32 x, .int .u64 t]] w fun e w' => ∃ v', e = .returned (.tuple #[v', .bool true]) ∧ SB W B R C T BB BW BG nr k A len cap al (bound + 1) (fun _ => False) v' w' ∧ ∀ g, Z0 g → g < w.heap.size → w'.heap[g]? = w.heap[g]? := by
  obtain ⟨X, l, gs, came, q, over, out, o, m, s, off, code, hM, hV, ⟨hU, hm, hob⟩, hZ0⟩ := h
  have hp : Ports w := hP.below hM.bel
  have hln : l.length = nr := hM.r.nl
  have hl : l.length ≤ 65536 := by have := hM.n0; omega
  have hW := hM.bel.size
  have hYZ : ∀ i, YY B R BB BW BG T X i → ¬ N3 w.heap.size i := fun i hi hn => by have := hM.ylt i hi; have := hn.1; omega
  have hV1 : VBus w (YZ B R BB BW BG T X (N3 w.heap.size)) A len cap v l came q over out o m s off code := hV.on (U := fun _ => False) (OnlyP.refl _ _) (fun i hi => hi.elim) (fun i hi => by rcases hi with hi | hi; exact .inl (.inl hi); exact .inr hi.1)
  obtain ⟨Ab, cb, Ar, cr, Ao, co, rfl, v1, v2, v3⟩ := hV1
  have hV1 : VBus w (YZ B R BB BW BG T X (N3 w.heap.size)) A len cap _ l came q over out o m s off code := ⟨Ab, cb, Ar, cr, Ao, co, rfl, v1, v2, v3⟩
  have HC : Cs11 #[.slice Ab l.length cb, .slice A len cap, .int .i64 (came : Int), .slice Ar q.length cr, .bool over, .slice Ao out.length co, .int .u64 o, .int .u64 m, .bool s, .bool off, .int .u32 code] Ab l.length cb := ⟨rfl, by simp [Value.oneCell'], rfl⟩
  have HA := asks v1 hl a mm a0 a1
  rw [hln] at HA
  have HAsk : ∀ w', Below w.heap.size w w' → BAsk w' B a mm (basked nr a mm) (bclass nr a mm) (rdev a) := fun w' hb => (hM.below hb).ask (hp.below hb) a mm a0 a1
  have hcf := bclass_f l a mm hl a0 a1
  rw [hln] at hcf
  have HSD : ∀ c : Array Value, Stab w.heap.size (fun w' => SB W B R C T BB BW BG nr k A len cap al (bound + 1) (N3 w.heap.size) (.agg c) w') := fun c w' w'' hh ho => hh.stab hW ho
  -- the same on both sides
  have HS0 : Stab w.heap.size (fun w' => MB W w' B R C T BB BW BG nr k X l (List.replicate k false) gs al came q over out o m s off code ∧ VBus w' (YZ B R BB BW BG T X (N3 w.heap.size)) A len cap (.agg #[.slice Ab l.length cb, .slice A len cap, .int .i64 (came : Int), .slice Ar q.length cr, .bool over, .slice Ao out.length co, .int .u64 o, .int .u64 m, .bool s, .bool off, .int .u32 code]) l came q over out o m s off code) :=
    fun w' w'' hh ho => ⟨hh.1.move ho hYZ (fun i hi => Nat.le_trans hW hi.1), hh.2.on ho (fun i hi => .inr hi) (fun i hi => .inl hi)⟩
  have fin : ∀ {f : Nat} {args : Array Value}, (Calls Tryd.prog f args w fun e w' => ∃ cs', e = .returned (.tuple #[.agg cs', .bool true]) ∧ SB W B R C T BB BW BG nr k A len cap al (bound + 1) (N3 w.heap.size) (.agg cs') w' ∧ OnlyP (YY B R BB BW BG T X) w w') →
      Calls Tryd.prog f args w fun e w' => ∃ v', e = .returned (.tuple #[v', .bool true]) ∧ SB W B R C T BB BW BG nr k A len cap al (bound + 1) (fun _ => False) v' w' ∧ ∀ g, Z0 g → g < w.heap.size → w'.heap[g]? = w.heap[g]? := fun hc => hc.mono fun e w' ⟨cs', he, hs, ho⟩ => ⟨_, he, hs.free, fun g hz hg => ho.block g hg (fun hy => hZ0 g hy hz)⟩
  have keep : ∀ {cs' : Array Value} {w' w'' : World}, MB W w' B R C T BB BW BG nr k X l (List.replicate k false) gs al came q over out o m s off code → Below w'.heap.size w' w'' → VBus w'' (YZ B R BB BW BG T X (N3 w.heap.size)) A len cap (.agg cs') l came q over out o m s off code → SB W B R C T BB BW BG nr k A len cap al (bound + 1) (N3 w.heap.size) (.agg cs') w'' :=
    fun hm' d hv => ⟨X, l, gs, came, q, over, out, o, m, s, off, code, hm'.below d, hv, ⟨hU, hm, by omega⟩, hYZ⟩
  refine (step_other w B _ Ab nr cb kd a mm x t _ (by rw [← hln]; exact HC) h1 h2 h3 _ ⟨hM, hV1⟩ (fun w' hh d => ⟨hh.1.below d, hh.2.below d⟩) HS0 HA).mono ?_
  rintro e w' ⟨cs', he, ⟨rfl, hh1, hh2⟩, ho⟩
  exact ⟨_, he, SB.free (Z := N3 w.heap.size) ⟨X, l, gs, came, q, over, out, o, m, s, off, code, hh1, hh2, ⟨hU, hm, by omega⟩, hYZ⟩, fun g hz hg => ho.block g hg (fun hy => hy)⟩
end
end Go.Proofs.YtdalboofhckobaaDoor

namespace Go.Proofs.YtdalboofhckobaaDoor
open Go Go.RowKit Go.Deep Go.Proofs.YtdalboofhckobaaDoorW.PrintWords Go.Proofs.YtdalboofhckobaaDoor.QBusPlays Go.Proofs.YtdalboofhckobaaDoor.FQBusPlays
set_option linter.unusedVariables false
set_option linter.unusedSimpArgs false

/-- No byte lies in these cells. -/
def NoU8 (cs : Array Value) : Prop := ∀ (i : Nat) (p : Int), cs[i]? ≠ some (.int .u8 p)
def BoxRB (w : World) (g : Nat) : Prop := ∃ cs, w.heap[g]? = some (.cells cs 65 (0, 0)) ∧ NoU8 cs
theorem noU8_of {cs : Array Value} (h : cs.toList.all (fun v => match v with | .int .u8 _ => false | _ => true) = true) : NoU8 cs := fun i p hp => by
  have hm : (Value.int .u8 p) ∈ cs.toList := by
    rw [← Array.getElem?_toList] at hp
    exact List.mem_of_getElem? hp
  have := (List.all_eq_true.1 h) _ hm
  simp at this
theorem noU8_zero : NoU8 zero11 := noU8_of rfl
theorem VBus.noU8 {w : World} {P : Nat → Prop} {A : Option Addr} {len cap : Nat} {cs : Array Value} {l : List Int} {came : Nat} {q : List Int} {over : Bool} {out : List Int} {o m : Int} {s off : Bool} {code : Int} (h : VBus w P A len cap (.agg cs) l came q over out o m s off code) : NoU8 cs ∧ cs.size = 11 ∧ cs.all (·.oneCell') = true := by
  obtain ⟨Ab, cb, Ar, cr, Ao, co, he, _⟩ := h
  cases he
  exact ⟨noU8_of rfl, rfl, by simp [Value.oneCell']⟩
theorem VR.apart {w : World} {P : Nat → Prop} {A : Option Addr} {c : Nat} {q : List Int} (h : VR w P A c q) : VR w (fun k => P k ∨ BoxRB w k) A c q := by
  rcases h with h | ⟨ad, rfl, hl, hX, hc⟩
  · exact .inl h
  · refine .inr ⟨ad, rfl, hl, fun hq => ?_, hc⟩
    rintro (hx | ⟨cs, hh, hn⟩)
    · exact hX hq hx
    · obtain ⟨x, q', rfl⟩ := List.exists_cons_of_ne_nil hq
      have h1 := hc 0 x rfl
      have e : (ad.add 0).block = ad.block := block_add _ _
      unfold World.cell? at h1
      rw [e, hh] at h1
      simp only at h1
      split at h1
      · cases h1
      · exact hn _ _ h1
section
variable {W w w' : World} {B R C T BB BW BG nr k : Nat} {A : Option Addr} {len cap : Nat} {al : List (Int × Int)} {bound : Nat} {v : Value} {g : Nat}
theorem ne_of_type {t : Nat} {a : Array Value} {z : Nat × Nat} {i : Nat} (h : w.heap[i]? = some (.cells a t z)) (hg : BoxRB w g) (ht : t ≠ 65) : i ≠ g := by
  rintro rfl
  obtain ⟨cs, hh, _⟩ := hg
  have := h.symm.trans hh
  simp only [Option.some.injEq, Obj.cells.injEq] at this
  exact ht this.2.1
theorem SB.excl (h : SB W B R C T BB BW BG nr k A len cap al bound (fun _ => False) v w) : SB W B R C T BB BW BG nr k A len cap al bound (fun i => BoxRB w i) v w := by
  obtain ⟨X, l, gs, came, q, over, out, o, m, s, off, code, hM, hV, h3, h4⟩ := h
  obtain ⟨⟨F, av, vo, hi⟩, hX, hb⟩ := hM.c
  have hF : ¬ BoxRB w F := by
    obtain ⟨b, f, n, _, _, _, hh, _⟩ := hi.f
    exact fun hg => ne_of_type hh hg (by decide) rfl
  have hK : KC W w (fun i => X i ∧ ¬ BoxRB w i) C al came q over out := ⟨⟨F, av, vo, ⟨hi.c, hi.f, hi.a, hi.o, ⟨hi.xc, fun hg => ne_of_type hi.c hg (by decide) rfl⟩, ⟨hi.xf, hF⟩, fun i hgi => ⟨hi.xa i hgi, fun hg => by obtain ⟨c, hc⟩ := own_typed hi.a i hgi; exact ne_of_type hc hg (by decide) rfl⟩, fun i hgi => ⟨hi.xo i hgi, fun hg => by obtain ⟨c, hc⟩ := own_typed hi.o i hgi; exact ne_of_type hc hg (by decide) rfl⟩, fun i hx => hi.xb i hx.1, hi.wa, hi.wq, hi.ll, hi.lc⟩⟩, fun i hx => hX i hx.1, hb⟩
  have hY : ∀ i, YY B R BB BW BG T (fun i => X i ∧ ¬ BoxRB w i) i → ¬ BoxRB w i := by
    rintro i (rfl | rfl | rfl | rfl | rfl | rfl | hx)
    · exact fun hg => ne_of_type hM.b hg (by decide) rfl
    · exact fun hg => ne_of_type hM.r.r hg (by decide) rfl
    · exact fun hg => ne_of_type hM.r.b hg (by decide) rfl
    · exact fun hg => ne_of_type hM.r.f hg (by decide) rfl
    · exact fun hg => ne_of_type hM.r.g hg (by decide) rfl
    · exact fun hg => ne_of_type hM.t hg (by decide) rfl
    · exact hx.2
  refine ⟨fun i => X i ∧ ¬ BoxRB w i, l, gs, came, q, over, out, o, m, s, off, code, ⟨hM.b, hM.r, hK, hM.t, hM.ap, fun i hx => hM.dis i hx.1, hM.tb, hM.bb, hM.n0⟩, ?_, h3, hY⟩
  obtain ⟨Ab, cb, Ar, cr, Ao, co, rfl, h1, h2, h3⟩ := hV
  have go : ∀ {A : Option Addr} {c : Nat} {q : List Int}, VR w (YZ B R BB BW BG T X (fun _ => False)) A c q → VR w (YZ B R BB BW BG T (fun i => X i ∧ ¬ BoxRB w i) (fun i => BoxRB w i)) A c q := fun hv =>
    hv.apart.wide fun i hi => by
      rcases hi with (hi | hi | hi | hi | hi | hi | hi) | hi
      · exact .inl (.inl (.inl (.inl hi)))
      · exact .inl (.inl (.inl (.inr (.inl hi))))
      · exact .inl (.inl (.inl (.inr (.inr (.inl hi)))))
      · exact .inl (.inl (.inl (.inr (.inr (.inr (.inl hi))))))
      · exact .inl (.inl (.inl (.inr (.inr (.inr (.inr (.inl hi)))))))
      · exact .inl (.inl (.inl (.inr (.inr (.inr (.inr (.inr (.inl hi))))))))
      · exact .inl (.inl (.inl (.inr (.inr (.inr (.inr (.inr (.inr hi.1))))))))
      · exact .inl (.inr hi)
  exact ⟨Ab, cb, Ar, cr, Ao, co, rfl, go h1, go h2, go h3⟩
theorem SB.box (h : SB W B R C T BB BW BG nr k A len cap al bound (fun _ => False) v w) (hg : BoxRB w g) (ho : Only g w w') (hgW : W.heap.size ≤ g) : SB W B R C T BB BW BG nr k A len cap al bound (fun _ => False) v w' := by
  obtain ⟨X, l, gs, came, q, over, out, o, m, s, off, code, hM, hV, h3, h4⟩ := h.excl
  have hop : OnlyP (fun i => i = g) w w' := .of_only ho rfl
  exact SB.free (Z := fun i => BoxRB w i) ⟨X, l, gs, came, q, over, out, o, m, s, off, code, hM.move hop (fun i hi e => h4 i hi (e ▸ hg)) (fun i hi => hi ▸ hgW), hV.on hop (fun i hi => .inr (hi ▸ hg)) (fun i hi => .inl hi), h3, h4⟩
theorem SB.cs {Z : Nat → Prop} (h : SB W B R C T BB BW BG nr k A len cap al bound Z v w) : ∃ cs, v = .agg cs ∧ NoU8 cs ∧ cs.size = 11 ∧ cs.all (·.oneCell') = true := by
  obtain ⟨X, l, gs, came, q, over, out, o, m, s, off, code, hM, hV, h3, h4⟩ := h
  obtain ⟨cs, rfl, _⟩ := vb_cs hV
  exact ⟨cs, rfl, hV.noU8⟩
/-- A step, whatever it is. -/
theorem bstep (hP : Ports W) (hk : k * 64 = nr) (hbd : bound ≤ 60000) (hAR : AR W A al) (hll : al.length ≤ 256) (h : SB W B R C T BB BW BG nr k A al.length cap al bound (fun _ => False) v w) (kd a mm x t : Int) (a0 : 0 ≤ a) (a1 : a < 4294967296) (x0 : 0 ≤ x) (x1 : x < 4294967296) (t0 : 0 ≤ t) (t1 : t < 18446744073709551616) :
    Calls Tryd.prog 28 #[.pointer (some ⟨B, 0, none⟩), v, .agg #[.int .i64 kd, .int .u32 a, .int .i64 mm, .int .u32 x, .int .u64 t]] w fun e w' => ∃ cs', e = .returned (.tuple #[.agg cs', .bool true]) ∧ (SB W B R C T BB BW BG nr k A al.length cap al (bound + 1) (fun _ => False) (.agg cs') w' ∧ NoU8 cs' ∧ cs'.size = 11 ∧ cs'.all (·.oneCell') = true) ∧ ∀ g, BoxRB w g → w'.heap[g]? = w.heap[g]? := by
  have h' := h.excl
  have fin : ∀ {args : Array Value}, (Calls Tryd.prog 28 args w fun e w' => ∃ v', e = .returned (.tuple #[v', .bool true]) ∧ SB W B R C T BB BW BG nr k A al.length cap al (bound + 1) (fun _ => False) v' w' ∧ ∀ j, (fun i => BoxRB w i) j → j < w.heap.size → w'.heap[j]? = w.heap[j]?) →
      Calls Tryd.prog 28 args w fun e w' => ∃ cs', e = .returned (.tuple #[.agg cs', .bool true]) ∧ (SB W B R C T BB BW BG nr k A al.length cap al (bound + 1) (fun _ => False) (.agg cs') w' ∧ NoU8 cs' ∧ cs'.size = 11 ∧ cs'.all (·.oneCell') = true) ∧ ∀ g, BoxRB w g → w'.heap[g]? = w.heap[g]? := fun hc => hc.mono fun e w' ⟨v', he, hs, hf⟩ => by
    obtain ⟨cs, rfl, h1⟩ := hs.cs
    exact ⟨cs, he, ⟨hs, h1⟩, fun g hg => hf g hg (by obtain ⟨c, hc, _⟩ := hg; exact blk_lt hc)⟩
  by_cases h1 : kd = 1
  · subst h1
    exact fin (bstep_load _ hP h' a mm x t a0 a1)
  · by_cases h2 : kd = 2
    · subst h2
      exact fin (bstep_store _ hP hk hbd h' a mm x t a0 a1 x0 x1)
    · by_cases h3 : kd = 3
      · subst h3
        exact fin (bstep_up _ hP h' hAR hll a mm x t a0 a1 t0 t1)
      · exact fin (bstep_other _ hP h' kd a mm x t (beq_eq_false_iff_ne.2 h1) (beq_eq_false_iff_ne.2 h2) (beq_eq_false_iff_ne.2 h3) a0 a1)
end
end Go.Proofs.YtdalboofhckobaaDoor

namespace Go.Proofs.YtdalboofhckobaaDoor
open Go Go.RowKit Go.Deep Go.Proofs.YtdalboofhckobaaDoorW.PrintWords Go.Proofs.YtdalboofhckobaaDoor.QBusPlays Go.Proofs.YtdalboofhckobaaDoor.FQBusPlays
set_option linter.unusedVariables false
set_option linter.unusedSimpArgs false

theorem bright_f (n : Int) : mimesisref10_Right.f n = some (decide (64 ≤ n) && decide (n ≤ 65536) && (n % 64 == 0)) := by
  unfold mimesisref10_Right.f
  by_cases h1 : 64 ≤ n
  · by_cases h2 : n ≤ 65536
    · rw [if_pos h1, if_pos h2, Int.tmod_eq_emod_of_nonneg (by omega)]; simp [h1, h2]
    · rw [if_pos h1, if_neg h2]; simp [h2]
  · rw [if_neg h1]; simp [h1]
theorem right12_uniq {len : Nat} {f : Nat → Nat → Int} {r r' : Int} (h : Right12 len f r) (h' : Right12 len f r') : r = r' := by
  rcases h with ⟨rfl, h1, h2⟩ | ⟨rfl, h1, j, h2, h3, h4⟩ | ⟨rfl, h1⟩ <;> rcases h' with ⟨rfl, k1, k2⟩ | ⟨rfl, k1, j', k2, k3, k4⟩ | ⟨rfl, k1⟩ <;> first | rfl | omega | skip
  · have := h2 j' _ _ k2 (arrs_at (by omega)) (arrs_at k2)
    simp at this; omega
  · have := k2 j _ _ h2 (arrs_at (by omega)) (arrs_at h2)
    simp at this; omega

theorem VR.of_block {w : World} {P : Nat → Prop} {g : Nat} {l : List Int} (h : w.heap[g]? = some (.cells (brow l) 5 (0, 0))) (hP : ¬ P g) : VR w P (some ⟨g, 0, none⟩) l.length l :=
  .inr ⟨_, rfl, Nat.le_refl _, fun _ => hP, fun i p hp => by
    rw [Addr.add_mid, cell_of_row w g (0 + i) _ _ _ h]
    simp [brow, hp]⟩
theorem wp_load_arr {P : Program} {op : Oper} {a : Act} {w : World} {K : Act → World → Prop} {Q : Exit → Act → World → Prop} (ty : TypeId) (x : Operand) (ho : op.op = .load ty x)
    (b : Nat) (hx : a.eval x = .pointer (some ⟨b, 0, none⟩)) (cs : Array Value) {t : Nat} {z : Nat × Nat} (H : w.heap[b]? = some (.cells cs t z)) (d : TypeDesc)
    (hu : P.underlying ty = some d) (hd : d.isRow = true) (hi : (P.info? ty).map (·.size) = some cs.size) (h : K (a.put op.dst (.agg cs)) w) : op.wp P a w K Q :=
  wp_load_mid ty x ho b 0 hx cs.toList d (range_of H) hu hd (by simpa using hi) (by simpa using h)
section
variable {A : Option Addr} {len cap : Nat} {f : Nat → Nat → Int} {A2 : Option Addr} {n2 cap2 : Nat} {W : World}
set_option maxRecDepth 100000 in
set_option maxHeartbeats 8000000 in
theorem plays_a (n : Int) (hr : mimesisref10_Right.f n = some false) (hP : Ports W) :
    Calls Tryd.prog 6 #[.int .i64 n, .slice A len cap, .slice A2 n2 cap2] W fun e w' => e = .returned (.bool true) ∧ Below W.heap.size W w' := by
  have HRT := Aside0.mk hr
  have HP := Aside0.mk hP
  clear hr hP
  go_enter Tryd.func6, Tryd.ntmps6
  go_wp2_with fail
  refine (mimesisref10_Right.calls n false W HRT.out).mono ?_
  rintro e w1 ⟨rfl, d⟩
  have B1 := Aside0.mk d.below
  clear d
  go_wp2_with fail
  refine (bus_awake_calls _ (HP.out.below B1.out)).mono ?_
  rintro e w9 ⟨rfl, b9⟩
  have B9 := Aside0.mk (below_on B1.out b9)
  clear b9
  go_wp2_with fail
  go_ret
  exact ⟨rfl, B9.out⟩
set_option maxRecDepth 100000 in
set_option maxHeartbeats 8000000 in
theorem plays_b (n : Int) (hr : mimesisref10_Right.f n = some true) (hn : 512 < n) (hP : Ports W) :
    Calls Tryd.prog 6 #[.int .i64 n, .slice A len cap, .slice A2 n2 cap2] W fun e w' => e = .returned (.bool true) ∧ Below W.heap.size W w' := by
  have HRT := Aside0.mk hr
  have HP := Aside0.mk hP
  have q1 : ((512 : Int) < n) = True := by simp; omega
  clear hr hP hn
  go_enter Tryd.func6, Tryd.ntmps6
  go_wp2_with fail
  refine (mimesisref10_Right.calls n true W HRT.out).mono ?_
  rintro e w1 ⟨rfl, d⟩
  have B1 := Aside0.mk d.below
  clear d
  go_wp2_with fail
  refine (bus_awake_calls _ (HP.out.below B1.out)).mono ?_
  rintro e w9 ⟨rfl, b9⟩
  have B9 := Aside0.mk (below_on B1.out b9)
  clear b9
  go_wp2_with fail
  go_ret
  exact ⟨rfl, B9.out⟩
set_option maxRecDepth 100000 in
set_option maxHeartbeats 8000000 in
theorem plays_c (n r : Int) (hr : mimesisref10_Right.f n = some true) (hn : ¬ 512 < n) (HR : Aside0 (∀ w, Below W.heap.size W w → Calls Tryd.prog 26 #[.slice A len cap] w fun e w' => e = .returned (.int .i64 r) ∧ Drawn0 w w')) (hr0 : (r != 0) = true) (hP : Ports W) :
    Calls Tryd.prog 6 #[.int .i64 n, .slice A len cap, .slice A2 n2 cap2] W fun e w' => e = .returned (.bool true) ∧ Below W.heap.size W w' := by
  have HRT := Aside0.mk hr
  have HP := Aside0.mk hP
  have q1 : ((512 : Int) < n) = False := by simp; omega
  clear hr hP hn
  go_enter Tryd.func6, Tryd.ntmps6
  go_wp2_with fail
  refine (mimesisref10_Right.calls n true W HRT.out).mono ?_
  rintro e w1 ⟨rfl, d⟩
  have B1 := Aside0.mk d.below
  clear d
  go_wp2_with fail
  refine (HR.out _ B1.out).mono ?_
  rintro e w2 ⟨rfl, d⟩
  have B2 := Aside0.mk (below_on B1.out d.below)
  clear d
  go_wp2_with fail
  refine (bus_awake_calls _ (HP.out.below B2.out)).mono ?_
  rintro e w9 ⟨rfl, b9⟩
  have B9 := Aside0.mk (below_on B2.out b9)
  clear b9
  go_wp2_with fail
  go_ret
  exact ⟨rfl, B9.out⟩
set_option maxRecDepth 100000 in
set_option maxHeartbeats 8000000 in
theorem plays_d (n : Int) (hr : mimesisref10_Right.f n = some true) (hn : ¬ 512 < n) (HR : Aside0 (∀ w, Below W.heap.size W w → Calls Tryd.prog 26 #[.slice A len cap] w fun e w' => e = .returned (.int .i64 0) ∧ Drawn0 w w')) (h2 : 100 < n2) (hP : Ports W) :
    Calls Tryd.prog 6 #[.int .i64 n, .slice A len cap, .slice A2 n2 cap2] W fun e w' => e = .returned (.bool true) ∧ Below W.heap.size W w' := by
  have HRT := Aside0.mk hr
  have HP := Aside0.mk hP
  have q1 : ((512 : Int) < n) = False := by simp; omega
  have q2 : ((100 : Int) < (n2 : Int)) = True := by simp; omega
  clear hr hP hn h2
  go_enter Tryd.func6, Tryd.ntmps6
  go_wp2_with fail
  refine (mimesisref10_Right.calls n true W HRT.out).mono ?_
  rintro e w1 ⟨rfl, d⟩
  have B1 := Aside0.mk d.below
  clear d
  go_wp2_with fail
  refine (HR.out _ B1.out).mono ?_
  rintro e w2 ⟨rfl, d⟩
  have B2 := Aside0.mk (below_on B1.out d.below)
  clear d
  go_wp2_with fail
  refine (bus_awake_calls _ (HP.out.below B2.out)).mono ?_
  rintro e w9 ⟨rfl, b9⟩
  have B9 := Aside0.mk (below_on B2.out b9)
  clear b9
  go_wp2_with fail
  go_ret
  exact ⟨rfl, B9.out⟩
end
set_option maxRecDepth 100000 in
set_option maxHeartbeats 8000000 in
theorem plays_main (nr : Nat) (A : Option Addr) (len cap : Nat) (f : Nat → Nat → Int) (A2 : Option Addr) (n2 cap2 : Nat) (f2 : Nat → Nat → Int) (W : World) (hr : mimesisref10_Right.f (nr : Int) = some true) (h64 : 64 ≤ nr ∧ nr ≤ 512 ∧ nr % 64 = 0) (hf : IsRows [.u64, .u8] W A len cap f) (hl : len ≤ 256) (hs : aord (arrs len f) len)
    (HR : Aside0 (∀ w, Below W.heap.size W w → Calls Tryd.prog 26 #[.slice A len cap] w fun e w' => e = .returned (.int .i64 0) ∧ Drawn0 w w')) (hn2 : n2 ≤ 100) (hf2 : IsRows [.i64, .u32, .i64, .u32, .u64] W A2 n2 cap2 f2) (hP : Ports W) :
    Calls Tryd.prog 6 #[.int .i64 (nr : Int), .slice A len cap, .slice A2 n2 cap2] W fun e w' => e = .returned (.bool true) ∧ Below W.heap.size W w' := by
  have HRT := Aside0.mk hr
  have HP := Aside0.mk hP
  have HF2 := Aside0.mk hf2
  have H64 := Aside0.mk h64
  have hal := arrs_length len f
  have HAL := Aside0.mk hal
  have HAR := Aside0.mk (rows_AR hf)
  have HCL := Aside0.mk (fun w' (hb : Below W.heap.size W w') => rows_C (hf.below (by simp) hb))
  have HLC := Aside0.mk hf.le.1
  have HLN := Aside0.mk (And.intro hl hn2)
  have HMD : Aside0 (∀ w, Below W.heap.size W w → Calls Tryd.prog _ #[.int .i64 (nr : Int), .slice A len cap] w _) := ⟨fun w hw => by
    have := made_calls W w hw nr h64.1 (by omega) h64.2.2 A cap (arrs len f) ((rows_AR hf).below hw) (rows_nil hf) (rows_wa hf) (by rw [hal]; exact hl) (by rw [hal]; exact hs)
    rw [hal] at this
    exact this⟩
  have q1 : ((512 : Int) < (nr : Int)) = False := by simp; omega
  have q2 : ((100 : Int) < (n2 : Int)) = False := by simp; omega
  have m1 : ∀ w : World, (Instr.makeSlice 29 (.int .i64 (nr : Int)) (.int .i64 (nr : Int))).run Tryd.prog w = .ok (.slice (some ⟨w.heap.size, 0, none⟩) nr nr) (w.alloc (.cells (brow (List.replicate nr 0)) 5)) := by
    intro w
    obtain ⟨i, hi, hz⟩ := Option.map_eq_some_iff.1 (show (Tryd.prog.info? 5).map (fun i => (i.zero, i.size, i.bytes)) = some (some (.int .u8 0), 1, 1) by kernel_rfl)
    simp only [Prod.mk.injEq] at hz
    obtain ⟨hz0, hz1, hz2⟩ := hz
    have h := run_make (P := Tryd.prog) w 29 5 i (.int .u8 0) Tryd.underlying29 hi hz0 .i64 .i64 (nr : Int) (nr : Int) (by omega) (by omega) (by rw [hz2]; omega) (by omega)
    rw [hz1] at h
    rw [show (Value.int .u8 0).cells = #[Value.int .u8 0] from rfl, made1, brow_made] at h
    simpa using h
  clear hr hP hf2 h64 hal hf hl hs hn2
  go_enter Tryd.func6, Tryd.ntmps6
  go_wp2_with fail
  refine (mimesisref10_Right.calls (nr : Int) true W HRT.out).mono ?_
  rintro e w1 ⟨rfl, d⟩
  have B1 := Aside0.mk d.below
  clear d
  go_wp2_with fail
  refine (HR.out _ B1.out).mono ?_
  rintro e w2 ⟨rfl, d⟩
  have B2 := Aside0.mk (below_on B1.out d.below)
  clear d
  go_wp2_with fail
  refine (HMD.out _ B2.out).mono ?_
  rintro e w3 ⟨B, R, C, T, BB, BW, BG, X, rfl, mb, _⟩
  have M3 := Aside0.mk mb
  clear mb HMD B1 B2 HR HRT
  go_upto_region 4 with fail
  have HI0 : Aside0 (Below w3.heap.size w3 w3.drew) := ⟨⟨rfl, rfl, rfl, Nat.le_refl _, fun _ _ => rfl⟩⟩
  refine wp_region_rjk (by kernel_rfl) 7 (fun W' => Below w3.heap.size w3 W') (fun _ x y => Below x.heap.size x y) (fun _ _ => false) (fun i v w => match i with | 0 => v = .int .i64 (nr : Int) | 1 => ∃ g, v = .slice (some ⟨g, 0, none⟩) nr nr ∧ w3.heap.size ≤ g ∧ w.heap[g]? = some (.cells (brow (List.replicate nr 0)) 5 (0, 0)) | 2 => v = .slice A len cap | 3 => v = .agg #[.slice A len cap, .int .i64 0, .slice none 0 0, .bool false, .slice none 0 0] | 4 => v = .agg #[.int .u64 0, .int .u64 18446744073709551615, .bool false] | 5 => ∃ g, v = .agg #[.slice (some ⟨g, 0, none⟩) nr nr, .slice A len cap, .int .i64 0, .slice none 0 0, .bool false, .slice none 0 0, .int .u64 0, .int .u64 18446744073709551615, .bool false, .bool false, .int .u32 0] ∧ w3.heap.size ≤ g ∧ w.heap[g]? = some (.cells (brow (List.replicate nr 0)) 5 (0, 0)) | 6 => ∃ g, v = .pointer (some ⟨g, 0, none⟩) ∧ w3.heap.size ≤ g ∧ w.heap[g]? = some (.cells zero11 65 (0, 0)) | _ => True) (by kernel_rfl) ?hR HI0.out ?step ?fin
  case hR =>
    intro i j v w w' _ _ h k
    match j, h with
    | 0, h => exact h
    | 1, h => obtain ⟨g, h1, h2, h3⟩ := h; exact ⟨g, h1, h2, blk_below h3 k⟩
    | 2, h => exact h
    | 3, h => exact h
    | 4, h => exact h
    | 5, h => obtain ⟨g, h1, h2, h3⟩ := h; exact ⟨g, h1, h2, blk_below h3 k⟩
    | 6, h => obtain ⟨g, h1, h2, h3⟩ := h; exact ⟨g, h1, h2, blk_below h3 k⟩
    | _ + 7, h => trivial
  case step =>
    intro i op hi him b W' hinv hkeep hdef hpre K hK
    have HI := Aside0.mk hinv
    have HPRE := Aside0.mk hpre
    have HKEEP := Aside0.mk hkeep
    have HKK := Aside0.mk hK
    clear hinv hpre hkeep hK hdef
    obtain rfl | rfl | rfl | rfl | rfl | rfl | rfl : i = 0 ∨ i = 1 ∨ i = 2 ∨ i = 3 ∨ i = 4 ∨ i = 5 ∨ i = 6 := by omega
    · cases hi
      have e0 : b.tmps.getD 0 undef = .int .i64 (nr : Int) := HKEEP.out 0 (by kernel_rfl)
      rw [if_pos (by rfl)]
      go_simp
      exact HKK.out _ _ HI.out (Below.refl _ _) rfl
    · cases hi
      have e33 : b.tmps.getD 33 undef = .int .i64 (nr : Int) := HPRE.out 0 (by kernel_rfl) (by omega) (by intros; rfl)
      rw [if_pos (by rfl)]
      go_simp
      exact HKK.out _ _ (below_alloc HI.out _) (below_alloc (Below.refl _ _) _) ⟨_, rfl, HI.out.size, blk_new W' _⟩
    · cases hi
      have e1 : b.tmps.getD 1 undef = .slice A len cap := HKEEP.out 1 (by kernel_rfl)
      rw [if_pos (by rfl)]
      go_simp
      exact HKK.out _ _ HI.out (Below.refl _ _) rfl
    · cases hi
      have e35 : b.tmps.getD 35 undef = .slice A len cap := HPRE.out 2 (by kernel_rfl) (by omega) (by intros; rfl)
      rw [if_pos (by rfl)]
      refine wp_build_eq 60 #[(0, .tmp 35)] rfl #[.slice A len cap, .int .i64 0, .slice none 0 0, .bool false, .slice none 0 0] (by simp only [List.map_toArray, List.map_cons, List.map_nil]; rw [show b.eval (.tmp 35) = _ from e35]; kernel_rfl) ?_
      exact HKK.out _ _ HI.out (Below.refl _ _) rfl
    · cases hi
      rw [if_pos (by rfl)]
      go_simp
      refine (mimesisref13_New.calls 0 18446744073709551615 false W' rfl).mono ?_
      rintro e W2 ⟨rfl, d⟩
      exact HKK.out _ _ (below_on HI.out d) d rfl
    · cases hi
      obtain ⟨g, e34, hg, hh⟩ := HPRE.out 1 (by kernel_rfl) (by omega) (by intros; rfl)
      have e36 : b.tmps.getD 36 undef = .agg #[.slice A len cap, .int .i64 0, .slice none 0 0, .bool false, .slice none 0 0] := HPRE.out 3 (by kernel_rfl) (by omega) (by intros; rfl)
      have e37 : b.tmps.getD 37 undef = .agg #[.int .u64 0, .int .u64 18446744073709551615, .bool false] := HPRE.out 4 (by kernel_rfl) (by omega) (by intros; rfl)
      rw [if_pos (by rfl)]
      refine wp_build_eq 65 #[(0, .tmp 34), (1, .tmp 36), (2, .tmp 37)] rfl #[.slice (some ⟨g, 0, none⟩) nr nr, .slice A len cap, .int .i64 0, .slice none 0 0, .bool false, .slice none 0 0, .int .u64 0, .int .u64 18446744073709551615, .bool false, .bool false, .int .u32 0] (by simp only [List.map_toArray, List.map_cons, List.map_nil]; rw [show b.eval (.tmp 34) = _ from e34, show b.eval (.tmp 36) = _ from e36, show b.eval (.tmp 37) = _ from e37]; kernel_rfl) ?_
      exact HKK.out _ _ HI.out (Below.refl _ _) ⟨g, rfl, hg, hh⟩
    · cases hi
      rw [if_pos (by rfl)]
      go_simp
      exact HKK.out _ _ (below_alloc HI.out _) (below_alloc (Below.refl _ _) _) ⟨_, rfl, HI.out.size, blk_new W' _⟩
  case fin =>
    intro b W' hinv hsz hdef hkeep hpost
    obtain ⟨g, e38, hg1, hg2⟩ := hpost 5 (by omega) (by intros; rfl)
    obtain ⟨G, e8, hG1, hG2⟩ := hpost 6 (by omega) (by intros; rfl)
    have e38 : b.tmps.getD 38 undef = .agg #[.slice (some ⟨g, 0, none⟩) nr nr, .slice A len cap, .int .i64 0, .slice none 0 0, .bool false, .slice none 0 0, .int .u64 0, .int .u64 18446744073709551615, .bool false, .bool false, .int .u32 0] := e38
    have e8 : b.tmps.getD 8 undef = .pointer (some ⟨G, 0, none⟩) := e8
    have k0 : b.tmps.getD 0 undef = .int .i64 (nr : Int) := hkeep 0 (by kernel_rfl)
    have k1 : b.tmps.getD 1 undef = .slice A len cap := hkeep 1 (by kernel_rfl)
    have k2 : b.tmps.getD 2 undef = .slice A2 n2 cap2 := hkeep 2 (by kernel_rfl)
    have k7 : b.tmps.getD 7 undef = .pointer (some ⟨B, 0, none⟩) := hkeep 7 (by kernel_rfl)
    refine rj_lastv (by kernel_rfl) rfl (by kernel_rfl) rfl (by kernel_rfl) ?_
    obtain ⟨sl, hlit, hsl⟩ := act_let b 70 hsz
    rw [hdef] at hlit
    rw [← hsl] at e38 e8 k0 k1 k2 k7
    simp only [show List.range 70 = [0, 1, 2, 3, 4, 5, 6, 7, 8, 9, 10, 11, 12, 13, 14, 15, 16, 17, 18, 19, 20, 21, 22, 23, 24, 25, 26, 27, 28, 29, 30, 31, 32, 33, 34, 35, 36, 37, 38, 39, 40, 41, 42, 43, 44, 45, 46, 47, 48, 49, 50, 51, 52, 53, 54, 55, 56, 57, 58, 59, 60, 61, 62, 63, 64, 65, 66, 67, 68, 69] from rfl, List.map_cons, List.map_nil, e38, e8, k0, k1, k2, k7] at hlit
    rw [hlit]
    have M4 := Aside0.mk (M3.out.below hinv)
    have hgG : g ≠ G := by
      rintro rfl
      have := hg2.symm.trans hG2
      simp at this
    have hst := storeN hG2 (#[.slice (some ⟨g, 0, none⟩) nr nr, .slice A len cap, .int .i64 0, .slice none 0 0, .bool false, .slice none 0 0, .int .u64 0, .int .u64 18446744073709551615, .bool false, .bool false, .int .u32 0] : Array Value).toList rfl
    refine wp_store_mid 65 (.tmp 8) (.tmp 38) rfl G 0 #[.slice (some ⟨g, 0, none⟩) nr nr, .slice A len cap, .int .i64 0, .slice none 0 0, .bool false, .slice none 0 0, .int .u64 0, .int .u64 18446744073709551615, .bool false, .bool false, .int .u32 0] rfl rfl (there_mid hG2 0 _ (by show 0 + 11 ≤ 11; omega)) (by kernel_rfl) (by simp [Value.oneCell']) ?_
    obtain ⟨w5, hw5⟩ : ∃ w5, W'.setCells G 0 (#[.slice (some ⟨g, 0, none⟩) nr nr, .slice A len cap, .int .i64 0, .slice none 0 0, .bool false, .slice none 0 0, .int .u64 0, .int .u64 18446744073709551615, .bool false, .bool false, .int .u32 0] : Array Value).toList = w5 := ⟨_, rfl⟩
    rw [hw5] at hst ⊢
    have hyl : ∀ i, YY B R BB BW BG T X i → i < w3.heap.size := M3.out.ylt
    have hWG : W.heap.size ≤ G := Nat.le_trans M3.out.bel.size hG1
    have SB0 : Aside0 (SB W B R C T BB BW BG nr (nr / 64) A len cap (arrs len f) 0 (fun _ => False) (.agg #[.slice (some ⟨g, 0, none⟩) nr nr, .slice A len cap, .int .i64 0, .slice none 0 0, .bool false, .slice none 0 0, .int .u64 0, .int .u64 18446744073709551615, .bool false, .bool false, .int .u32 0]) w5) := ⟨by
      have hM5 := M4.out.move (Z := fun i => i = G) (.of_only hst.2 rfl) (fun i hi e => by have := hyl i hi; omega) (fun i hi => by rw [hi]; exact hWG)
      have hg5 : w5.heap[g]? = some (.cells (brow (List.replicate nr 0)) 5 (0, 0)) := (hst.2.block g (blk_lt hg2) hgG).trans hg2
      have hv := VR.of_block (P := YZ B R BB BW BG T X (fun _ => False)) hg5 (fun hi => by rcases hi with hi | hi; have := hyl g hi; omega; exact hi)
      rw [List.length_replicate] at hv
      refine ⟨X, List.replicate nr 0, List.replicate (nr / 64) 0, 0, [], false, [], 0, 18446744073709551615, false, false, 0, hM5, ⟨some ⟨g, 0, none⟩, nr, none, 0, none, 0, by rw [List.length_replicate]; rfl, by rw [← List.length_replicate (n := nr) (a := (0 : Int))] at hv; simpa using hv, .inl ⟨rfl, rfl, rfl⟩, .inl ⟨rfl, rfl, rfl⟩⟩, ⟨U8.zero nr, by omega, by simp⟩, fun i _ h => h⟩⟩
    have HG0 := Aside0.mk hst.1
    have HWG := Aside0.mk hWG
    clear hkeep hsz hdef e38 e8 k0 k1 k2 k7 hsl hlit hpost hinv hst hw5 hyl hgG hg1 hg2 hG1 hG2 hWG M4 M3 m1 HI0
    have NU0 : Aside0 (NoU8 (#[.slice (some ⟨g, 0, none⟩) nr nr, .slice A len cap, .int .i64 0, .slice none 0 0, .bool false, .slice none 0 0, .int .u64 0, .int .u64 18446744073709551615, .bool false, .bool false, .int .u32 0] : Array Value) ∧ (#[.slice (some ⟨g, 0, none⟩) nr nr, .slice A len cap, .int .i64 0, .slice none 0 0, .bool false, .slice none 0 0, .int .u64 0, .int .u64 18446744073709551615, .bool false, .bool false, .int .u32 0] : Array Value).size = 11 ∧ (#[.slice (some ⟨g, 0, none⟩) nr nr, .slice A len cap, .int .i64 0, .slice none 0 0, .bool false, .slice none 0 0, .int .u64 0, .int .u64 18446744073709551615, .bool false, .bool false, .int .u32 0] : Array Value).all (·.oneCell') = true) := ⟨⟨noU8_of rfl, rfl, by simp [Value.oneCell']⟩⟩
    go_wp2_with fail
    go_loopg [9] (n2 + 1) (fun g' i wr => ∃ (k : Nat) (cs : Array Value), g' + k = n2 + 1 ∧ k ≤ n2 ∧ i = .int .i64 (k : Int) ∧ Aside0 (SB W B R C T BB BW BG nr (nr / 64) A len cap (arrs len f) k (fun _ => False) (.agg cs) wr) ∧ Aside0 (wr.heap[G]? = some (.cells cs 65 (0, 0))) ∧ Aside0 (NoU8 cs ∧ cs.size = 11 ∧ cs.all (·.oneCell') = true))
    case atStart => exact ⟨0, _, by omega, by omega, rfl, SB0, HG0, NU0⟩
    case round =>
      obtain ⟨k, cs, hgk, hkn, rfl, HSB, HGB, HNU⟩ := hrel
      obtain ⟨wo, rfl⟩ : ∃ wo : World, wo = wr := ⟨_, rfl⟩
      have HGK := Aside0.mk hgk
      clear SB0 HG0 NU0 hgk
      have HBL : Aside0 (Below W.heap.size W wo) := ⟨by obtain ⟨_, _, _, _, _, _, _, _, _, _, _, _, hM, _⟩ := HSB.out; exact hM.bel⟩
      by_cases hlt : k < n2
      · have hlt' : ((k : Int) < (n2 : Int)) = True := by simp; omega
        obtain ⟨y, hy, hc⟩ := HF2.out.at_ hlt
        subst hy
        have s0 := pw_cell_below HBL.out (hc 0 .i64 rfl).1
        have s1 := pw_cell_below HBL.out (hc 1 .u32 rfl).1
        have s2 := pw_cell_below HBL.out (hc 2 .i64 rfl).1
        have s3 := pw_cell_below HBL.out (hc 3 .u32 rfl).1
        have s4 := pw_cell_below HBL.out (hc 4 .u64 rfl).1
        have HYW : Aside0 ((y.add (k * 5)).block < W.heap.size) := ⟨World.block_lt_of_cell? W (y.add (k * 5)) (hc 0 .i64 rfl).1⟩
        have r1 := (hc 1 .u32 rfl).2
        have r3 := (hc 3 .u32 rfl).2
        have r4 := (hc 4 .u64 rfl).2
        simp [Lit.wf, IntKind.min, IntKind.max, IntKind.bits, IntKind.signed] at r1 r3 r4
        change wo.cell? (y.add (k * 5)) = _ at s0
        change wo.cell? (y.add (k * 5 + 1)) = _ at s1
        change wo.cell? (y.add (k * 5 + 2)) = _ at s2
        change wo.cell? (y.add (k * 5 + 3)) = _ at s3
        change wo.cell? (y.add (k * 5 + 4)) = _ at s4
        rw [add_field _ _ _ (by omega)] at s1 s2 s3 s4
        clear hc
        generalize f2 k 0 = z0 at s0
        generalize f2 k 1 = z1 at s1 r1
        generalize f2 k 2 = z2 at s2
        generalize f2 k 3 = z3 at s3 r3
        generalize f2 k 4 = z4 at s4 r4
        have HST : Aside0 (∀ w', SB W B R C T BB BW BG nr (nr / 64) A len cap (arrs len f) k (fun _ => False) (.agg cs) w' → Calls Tryd.prog 28 #[.pointer (some ⟨B, 0, none⟩), .agg cs, .agg #[.int .i64 z0, .int .u32 z1, .int .i64 z2, .int .u32 z3, .int .u64 z4]] w' fun e w'' => ∃ cs', e = .returned (.tuple #[.agg cs', .bool true]) ∧ (SB W B R C T BB BW BG nr (nr / 64) A len cap (arrs len f) (k + 1) (fun _ => False) (.agg cs') w'' ∧ NoU8 cs' ∧ cs'.size = 11 ∧ cs'.all (·.oneCell') = true) ∧ ∀ g, BoxRB w' g → w''.heap[g]? = w'.heap[g]?) := ⟨fun w' hs => by
          have := bstep (cap := cap) (v := .agg cs) (w := w') HP.out (show nr / 64 * 64 = nr by have := H64.out; omega) (show k ≤ 60000 by have := HLN.out; omega) HAR.out (by rw [HAL.out]; exact HLN.out.1) (by rw [HAL.out]; exact hs) z0 z1 z2 z3 z4 (by omega) (by omega) (by omega) (by omega) (by omega) (by omega)
          rw [HAL.out] at this
          exact this⟩
        have HZ4 := Aside0.mk s4
        have HLT := Aside0.mk hlt
        have HGLT : Aside0 (G < wo.heap.size) := ⟨blk_lt HGB.out⟩
        clear r1 r3 r4
        go_upto_region 8 with fail
        have HI0 : Aside0 (wo.drew.heap[G]? = some (.cells cs 65 (0, 0)) ∧ Below W.heap.size W wo.drew) := ⟨HGB.out, below_on HBL.out ⟨rfl, rfl, rfl, Nat.le_refl _, fun _ _ => rfl⟩⟩
        have HSB0 : Aside0 (SB W B R C T BB BW BG nr (nr / 64) A len cap (arrs len f) k (fun _ => False) (.agg cs) wo) := HSB
        refine wp_region_rjf (by kernel_rfl) 12 (fun W' => W'.heap[G]? = some (.cells cs 65 (0, 0)) ∧ Below W.heap.size W W') (fun i x y => (i ≠ 6 → i ≠ 11 → Below x.heap.size x y) ∧ (i = 11 → ∃ G2, BoxRB x G2 ∧ Only G2 x y ∧ W.heap.size ≤ G2) ∧ (i = 6 → ∀ g, BoxRB x g → y.heap[g]? = x.heap[g]?)) (fun i j => i == 11 && j == 10) (fun j w => j = 6 → SB W B R C T BB BW BG nr (nr / 64) A len cap (arrs len f) k (fun _ => False) (.agg cs) w) (fun i fv w => match i with | 0 => fv 46 = .pointer (some ⟨B, 0, none⟩) | 1 => fv 47 = .agg cs | 2 => fv 48 = .slice (some y) n2 cap2 | 3 => fv 49 = .int .i64 (k : Int) | 4 => fv 50 = .pointer (some (y.add (k * 5))) | 5 => fv 51 = .agg #[.int .i64 z0, .int .u32 z1, .int .i64 z2, .int .u32 z3, .int .u64 z4] | 6 => ∃ cs', fv 52 = .tuple #[.agg cs', .bool true] ∧ SB W B R C T BB BW BG nr (nr / 64) A len cap (arrs len f) (k + 1) (fun _ => False) (.agg cs') w ∧ (NoU8 cs' ∧ cs'.size = 11 ∧ cs'.all (·.oneCell') = true) | 7 => ∃ cs', fv 45 = .tuple #[.agg cs', .bool true] ∧ SB W B R C T BB BW BG nr (nr / 64) A len cap (arrs len f) (k + 1) (fun _ => False) (.agg cs') w ∧ (NoU8 cs' ∧ cs'.size = 11 ∧ cs'.all (·.oneCell') = true) | 8 => ∃ cs', fv 53 = .agg cs' ∧ SB W B R C T BB BW BG nr (nr / 64) A len cap (arrs len f) (k + 1) (fun _ => False) (.agg cs') w ∧ (NoU8 cs' ∧ cs'.size = 11 ∧ cs'.all (·.oneCell') = true) | 9 => fv 54 = .bool true | 10 => ∃ G2, fv 10 = .pointer (some ⟨G2, 0, none⟩) ∧ (G2 ≠ G ∧ W.heap.size ≤ G2) ∧ w.heap[G2]? = some (.cells zero11 65 (0, 0)) | 11 => ∃ cs' G2, fv 53 = .agg cs' ∧ fv 10 = .pointer (some ⟨G2, 0, none⟩) ∧ (G2 ≠ G ∧ W.heap.size ≤ G2) ∧ w.heap[G2]? = some (.cells cs' 65 (0, 0)) | _ => True) (by kernel_rfl) ?hL ?hP ?hR HI0.out (fun j _ => HSB0.out.below ⟨rfl, rfl, rfl, Nat.le_refl _, fun _ _ => rfl⟩) ?step ?fin
        case hL =>
          intro i fv g w hfg hp
          match i, hp with
          | 0, hp => have e := hfg 0 (.inl rfl); change fv 46 = g 46 at e; exact e.symm.trans hp
          | 1, hp => have e := hfg 1 (.inl rfl); change fv 47 = g 47 at e; exact e.symm.trans hp
          | 2, hp => have e := hfg 2 (.inl rfl); change fv 48 = g 48 at e; exact e.symm.trans hp
          | 3, hp => have e := hfg 3 (.inl rfl); change fv 49 = g 49 at e; exact e.symm.trans hp
          | 4, hp => have e := hfg 4 (.inl rfl); change fv 50 = g 50 at e; exact e.symm.trans hp
          | 5, hp => have e := hfg 5 (.inl rfl); change fv 51 = g 51 at e; exact e.symm.trans hp
          | 6, hp => have e := hfg 6 (.inl rfl); change fv 52 = g 52 at e; obtain ⟨c, h1, h2⟩ := hp; exact ⟨c, e.symm.trans h1, h2⟩
          | 7, hp => have e := hfg 7 (.inl rfl); change fv 45 = g 45 at e; obtain ⟨c, h1, h2⟩ := hp; exact ⟨c, e.symm.trans h1, h2⟩
          | 8, hp => have e := hfg 8 (.inl rfl); change fv 53 = g 53 at e; obtain ⟨c, h1, h2⟩ := hp; exact ⟨c, e.symm.trans h1, h2⟩
          | 9, hp => have e := hfg 9 (.inl rfl); change fv 54 = g 54 at e; exact e.symm.trans hp
          | 10, hp => have e := hfg 10 (.inl rfl); change fv 10 = g 10 at e; obtain ⟨c, h1, h2⟩ := hp; exact ⟨c, e.symm.trans h1, h2⟩
          | 11, hp => have e := hfg 8 (.inr (by kernel_rfl)); change fv 53 = g 53 at e; have e' := hfg 10 (.inr (by kernel_rfl)); change fv 10 = g 10 at e'; obtain ⟨c, G2, h1, h2, h3⟩ := hp; exact ⟨c, G2, e.symm.trans h1, e'.symm.trans h2, h3⟩
          | _ + 12, hp => trivial
        case hP =>
          intro i j w w' hne hp hr hj
          obtain ⟨r0, r11, r6⟩ := hr
          by_cases h11 : i = 11
          · obtain ⟨G2, hb, ho, hw⟩ := r11 h11
            exact (hp hj).box hb ho hw
          · exact (hp hj).below (r0 (by omega) h11)
        case hR =>
          intro i j fv w w' hne hd hp hr
          obtain ⟨r0, r11, r6⟩ := hr
          have hsb : ∀ {bd : Nat} {v : Value}, i ≠ 6 → SB W B R C T BB BW BG nr (nr / 64) A len cap (arrs len f) bd (fun _ => False) v w → SB W B R C T BB BW BG nr (nr / 64) A len cap (arrs len f) bd (fun _ => False) v w' := fun h6 hs => by
            by_cases h11 : i = 11
            · obtain ⟨G2, hb, ho, hw⟩ := r11 h11
              exact hs.box hb ho hw
            · exact hs.below (r0 h6 h11)
          match j, hp with
          | 0, hp => exact hp
          | 1, hp => exact hp
          | 2, hp => exact hp
          | 3, hp => exact hp
          | 4, hp => exact hp
          | 5, hp => exact hp
          | 6, hp => obtain ⟨c, h1, h2, h3⟩ := hp; exact ⟨c, h1, hsb hne h2, h3⟩
          | 7, hp =>
            have h6 : i ≠ 6 := by rintro rfl; revert hd; exact fun hd => absurd hd (by rw [show dead _ _ 6 7 = true by kernel_rfl]; simp)
            obtain ⟨c, h1, h2, h3⟩ := hp; exact ⟨c, h1, hsb h6 h2, h3⟩
          | 8, hp =>
            have h6 : i ≠ 6 := by rintro rfl; revert hd; exact fun hd => absurd hd (by rw [show dead _ _ 6 8 = true by kernel_rfl]; simp)
            obtain ⟨c, h1, h2, h3⟩ := hp; exact ⟨c, h1, hsb h6 h2, h3⟩
          | 9, hp => exact hp
          | 10, hp =>
            have h11 : i ≠ 11 := by rintro rfl; revert hd; exact fun hd => absurd hd (by rw [show dead _ _ 11 10 = true by kernel_rfl]; simp)
            obtain ⟨G2, h1, h2, h3⟩ := hp
            by_cases h6 : i = 6
            · exact ⟨G2, h1, h2, (r6 h6 G2 ⟨_, h3, noU8_zero⟩).trans h3⟩
            · exact ⟨G2, h1, h2, blk_below h3 (r0 h6 h11)⟩
          | 11, hp =>
            have h6 : i ≠ 6 := by rintro rfl; revert hd; exact fun hd => absurd hd (by rw [show dead _ _ 6 11 = true by kernel_rfl]; simp)
            obtain ⟨c, G2, h1, h2, h3, h4⟩ := hp
            exact ⟨c, G2, h1, h2, h3, blk_below h4 (r0 h6 hne)⟩
          | _ + 12, hp => trivial
        case step =>
          intro i op hi him b W' hinv hpnd hkeep hdef hpre K hK
          have HPD := Aside0.mk hpnd
          have HI := Aside0.mk hinv
          have HPRE := Aside0.mk hpre
          have HKEEP := Aside0.mk hkeep
          have HKK := Aside0.mk hK
          clear hinv hpnd hpre hkeep hK hdef
          obtain rfl | rfl | rfl | rfl | rfl | rfl | rfl | rfl | rfl | rfl | rfl | rfl : i = 0 ∨ i = 1 ∨ i = 2 ∨ i = 3 ∨ i = 4 ∨ i = 5 ∨ i = 6 ∨ i = 7 ∨ i = 8 ∨ i = 9 ∨ i = 10 ∨ i = 11 := by omega
          · cases hi
            have e7 : b.tmps.getD 7 undef = .pointer (some ⟨B, 0, none⟩) := HKEEP.out 7 (by kernel_rfl)
            rw [if_pos (by rfl)]
            go_simp
            exact HKK.out _ _ HI.out ⟨fun _ _ => Below.refl _ _, fun h => absurd h (by decide), fun h => absurd h (by decide)⟩ (rfl)
          · cases hi
            have e8 : b.tmps.getD 8 undef = .pointer (some ⟨G, 0, none⟩) := HKEEP.out 8 (by kernel_rfl)
            rw [if_pos (by rfl)]
            refine wp_load_arr 65 (.tmp 8) rfl G e8 cs HI.out.1 _ Tryd.underlying65 rfl (by rw [HNU.out.2.1]; kernel_rfl) ?_
            exact HKK.out _ _ HI.out ⟨fun _ _ => Below.refl _ _, fun h => absurd h (by decide), fun h => absurd h (by decide)⟩ (rfl)
          · cases hi
            have e2 : b.tmps.getD 2 undef = .slice (some y) n2 cap2 := HKEEP.out 2 (by kernel_rfl)
            rw [if_pos (by rfl)]
            go_simp
            exact HKK.out _ _ HI.out ⟨fun _ _ => Below.refl _ _, fun h => absurd h (by decide), fun h => absurd h (by decide)⟩ (rfl)
          · cases hi
            have e9 : b.tmps.getD 9 undef = .int .i64 (k : Int) := HKEEP.out 9 (by kernel_rfl)
            rw [if_pos (by rfl)]
            go_simp
            exact HKK.out _ _ HI.out ⟨fun _ _ => Below.refl _ _, fun h => absurd h (by decide), fun h => absurd h (by decide)⟩ (rfl)
          · cases hi
            have e48 : b.tmps.getD 48 undef = .slice (some y) n2 cap2 := HPRE.out 2 (by kernel_rfl) (by omega) (by intro q hq; first | rfl | (simp [hq]))
            have e49 : b.tmps.getD 49 undef = .int .i64 (k : Int) := HPRE.out 3 (by kernel_rfl) (by omega) (by intro q hq; first | rfl | (simp [hq]))
            rw [if_pos (by rfl)]
            go_simp
            exact HKK.out _ _ HI.out ⟨fun _ _ => Below.refl _ _, fun h => absurd h (by decide), fun h => absurd h (by decide)⟩ (rfl)
          · cases hi
            have e50 : b.tmps.getD 50 undef = .pointer (some (y.add (k * 5))) := HPRE.out 4 (by kernel_rfl) (by omega) (by intro q hq; first | rfl | (simp [hq]))
            have t0 : W'.cell? (y.add (k * 5)) = some (.int .i64 z0) := ((Below.cell HI.out.2 (p := (y.add (k * 5))) HYW.out).trans ((Below.cell HBL.out (p := (y.add (k * 5))) HYW.out).symm)).trans s0
            have t1 : W'.cell? ⟨(y.add (k * 5)).block, (y.add (k * 5)).off + 1, none⟩ = some (.int .u32 z1) := ((Below.cell HI.out.2 (p := ⟨(y.add (k * 5)).block, (y.add (k * 5)).off + 1, none⟩) HYW.out).trans ((Below.cell HBL.out (p := ⟨(y.add (k * 5)).block, (y.add (k * 5)).off + 1, none⟩) HYW.out).symm)).trans s1
            have t2 : W'.cell? ⟨(y.add (k * 5)).block, (y.add (k * 5)).off + 2, none⟩ = some (.int .i64 z2) := ((Below.cell HI.out.2 (p := ⟨(y.add (k * 5)).block, (y.add (k * 5)).off + 2, none⟩) HYW.out).trans ((Below.cell HBL.out (p := ⟨(y.add (k * 5)).block, (y.add (k * 5)).off + 2, none⟩) HYW.out).symm)).trans s2
            have t3 : W'.cell? ⟨(y.add (k * 5)).block, (y.add (k * 5)).off + 3, none⟩ = some (.int .u32 z3) := ((Below.cell HI.out.2 (p := ⟨(y.add (k * 5)).block, (y.add (k * 5)).off + 3, none⟩) HYW.out).trans ((Below.cell HBL.out (p := ⟨(y.add (k * 5)).block, (y.add (k * 5)).off + 3, none⟩) HYW.out).symm)).trans s3
            have t4 : W'.cell? ⟨(y.add (k * 5)).block, (y.add (k * 5)).off + 4, none⟩ = some (.int .u64 z4) := ((Below.cell HI.out.2 (p := ⟨(y.add (k * 5)).block, (y.add (k * 5)).off + 4, none⟩) HYW.out).trans ((Below.cell HBL.out (p := ⟨(y.add (k * 5)).block, (y.add (k * 5)).off + 4, none⟩) HYW.out).symm)).trans s4
            rw [if_pos (by rfl)]
            go_simp
            exact HKK.out _ _ HI.out ⟨fun _ _ => Below.refl _ _, fun h => absurd h (by decide), fun h => absurd h (by decide)⟩ (rfl)
          · cases hi
            have e46 : b.tmps.getD 46 undef = .pointer (some ⟨B, 0, none⟩) := HPRE.out 0 (by kernel_rfl) (by omega) (by intro q hq; first | rfl | (simp [hq]))
            have e47 : b.tmps.getD 47 undef = .agg cs := HPRE.out 1 (by kernel_rfl) (by omega) (by intro q hq; first | rfl | (simp [hq]))
            have hs := HPD.out rfl
            have e51 : b.tmps.getD 51 undef = .agg #[.int .i64 z0, .int .u32 z1, .int .i64 z2, .int .u32 z3, .int .u64 z4] := HPRE.out 5 (by kernel_rfl) (by omega) (by intro q hq; first | rfl | (simp [hq]))
            rw [if_pos (by rfl)]
            go_simp
            refine (HST.out _ hs).mono ?_
            rintro e W2 ⟨cs', rfl, ⟨hs2, hn⟩, hf⟩
            have hm : Below W.heap.size W W2 := by obtain ⟨_, _, _, _, _, _, _, _, _, _, _, _, hM, _⟩ := hs2; exact hM.bel
            exact HKK.out _ _ ⟨(hf G ⟨_, HI.out.1, HNU.out.1⟩).trans HI.out.1, hm⟩ ⟨fun h => absurd rfl h, fun h => absurd h (by decide), fun _ => hf⟩ ⟨cs', rfl, hs2, hn⟩
          · cases hi
            obtain ⟨cs', e52, hs2, hn⟩ := HPRE.out 6 (by kernel_rfl) (by omega) (by intro q hq; first | rfl | (simp [hq]))
            have e52 : b.tmps.getD 52 undef = .tuple #[.agg cs', .bool true] := e52
            rw [if_pos (by rfl)]
            go_simp
            exact HKK.out _ _ HI.out ⟨fun _ _ => Below.refl _ _, fun h => absurd h (by decide), fun h => absurd h (by decide)⟩ ⟨cs', rfl, hs2, hn⟩
          · cases hi
            obtain ⟨cs', e45, hs2, hn⟩ := HPRE.out 7 (by kernel_rfl) (by omega) (by intro q hq; first | rfl | (simp [hq]))
            have e45 : b.tmps.getD 45 undef = .tuple #[.agg cs', .bool true] := e45
            rw [if_pos (by rfl)]
            go_simp
            exact HKK.out _ _ HI.out ⟨fun _ _ => Below.refl _ _, fun h => absurd h (by decide), fun h => absurd h (by decide)⟩ ⟨cs', rfl, hs2, hn⟩
          · cases hi
            obtain ⟨cs', e45, hs2, hn⟩ := HPRE.out 7 (by kernel_rfl) (by omega) (by intro q hq; first | rfl | (simp [hq]))
            have e45 : b.tmps.getD 45 undef = .tuple #[.agg cs', .bool true] := e45
            rw [if_pos (by rfl)]
            go_simp
            exact HKK.out _ _ HI.out ⟨fun _ _ => Below.refl _ _, fun h => absurd h (by decide), fun h => absurd h (by decide)⟩ (rfl)
          · cases hi
            rw [if_pos (by rfl)]
            go_simp
            exact HKK.out _ _ ⟨blk_below HI.out.1 (below_alloc (Below.refl _ _) _), below_on HI.out.2 (below_alloc (Below.refl _ _) _)⟩ ⟨fun _ _ => below_alloc (Below.refl _ _) _, fun h => absurd h (by decide), fun h => absurd h (by decide)⟩ ⟨_, rfl, ⟨by have := blk_lt HI.out.1; omega, HI.out.2.size⟩, blk_new W' _⟩
          · cases hi
            obtain ⟨cs', e53, hs2, hn⟩ := HPRE.out 8 (by kernel_rfl) (by omega) (by intro q hq; first | rfl | (simp [hq]))
            have e53 : b.tmps.getD 53 undef = .agg cs' := e53
            obtain ⟨G2, e10, hg1, hg2⟩ := HPRE.out 10 (by kernel_rfl) (by omega) (by intro q hq; simp [hq])
            have e10 : b.tmps.getD 10 undef = .pointer (some ⟨G2, 0, none⟩) := e10
            rw [if_pos (by rfl)]
            have hst := storeN hg2 cs'.toList (by rw [Array.length_toList]; exact hn.2.1.symm)
            exact wp_store_mid 65 (.tmp 10) (.tmp 53) rfl G2 0 cs' e10 e53 (there_mid hg2 0 _ (by rw [hn.2.1]; decide)) (by rw [hn.2.1]; kernel_rfl) hn.2.2 (HKK.out undef _ ⟨(hst.2.block G (blk_lt HI.out.1) (Ne.symm hg1.1)).trans HI.out.1, (OnlyP.of_only (P := fun i => i = G2) hst.2 rfl).below (fun i hi => by rw [hi]; exact hg1.2) HI.out.2⟩ ⟨fun _ h => absurd rfl h, fun _ => ⟨G2, ⟨_, hg2, noU8_zero⟩, hst.2, hg1.2⟩, fun h => absurd h (by decide)⟩ ⟨cs', G2, e53, e10, hg1, by simpa using hst.1⟩)
        case fin =>
          intro b W' hinv hsz hdef hkeep hpost
          obtain ⟨cs', e53, hs2, hn⟩ := hpost 8 (by omega) (by intro q hq; simp)
          obtain ⟨cs2, G2, e53', e10, hg1, hg2⟩ := hpost 11 (by omega) (by intro q hq; simp)
          obtain rfl : cs2 = cs' := by have := e53'.symm.trans e53; cases this; rfl
          have e10 : b.tmps.getD 10 undef = .pointer (some ⟨G2, 0, none⟩) := e10
          have e54 : b.tmps.getD 54 undef = .bool true := hpost 9 (by omega) (by intro q hq; simp)
          have k0 : b.tmps.getD 0 undef = .int .i64 (nr : Int) := hkeep 0 (by kernel_rfl)
          have k1 : b.tmps.getD 1 undef = .slice A len cap := hkeep 1 (by kernel_rfl)
          have k2 : b.tmps.getD 2 undef = .slice (some y) n2 cap2 := hkeep 2 (by kernel_rfl)
          have k3 : b.tmps.getD 3 undef = sl 3 := hkeep 3 (by kernel_rfl)
          have k4 : b.tmps.getD 4 undef = sl 4 := hkeep 4 (by kernel_rfl)
          have k5 : b.tmps.getD 5 undef = sl 5 := hkeep 5 (by kernel_rfl)
          have k7 : b.tmps.getD 7 undef = .pointer (some ⟨B, 0, none⟩) := hkeep 7 (by kernel_rfl)
          have k8 : b.tmps.getD 8 undef = .pointer (some ⟨G, 0, none⟩) := hkeep 8 (by kernel_rfl)
          have k12 : b.tmps.getD 12 undef = sl 12 := hkeep 12 (by kernel_rfl)
          have k13 : b.tmps.getD 13 undef = sl 13 := hkeep 13 (by kernel_rfl)
          have k14 : b.tmps.getD 14 undef = sl 14 := hkeep 14 (by kernel_rfl)
          have k15 : b.tmps.getD 15 undef = sl 15 := hkeep 15 (by kernel_rfl)
          have k16 : b.tmps.getD 16 undef = sl 16 := hkeep 16 (by kernel_rfl)
          have k17 : b.tmps.getD 17 undef = sl 17 := hkeep 17 (by kernel_rfl)
          have k18 : b.tmps.getD 18 undef = sl 18 := hkeep 18 (by kernel_rfl)
          have k19 : b.tmps.getD 19 undef = sl 19 := hkeep 19 (by kernel_rfl)
          have k20 : b.tmps.getD 20 undef = sl 20 := hkeep 20 (by kernel_rfl)
          have k21 : b.tmps.getD 21 undef = sl 21 := hkeep 21 (by kernel_rfl)
          have k22 : b.tmps.getD 22 undef = sl 22 := hkeep 22 (by kernel_rfl)
          have k23 : b.tmps.getD 23 undef = sl 23 := hkeep 23 (by kernel_rfl)
          have k24 : b.tmps.getD 24 undef = sl 24 := hkeep 24 (by kernel_rfl)
          have k25 : b.tmps.getD 25 undef = sl 25 := hkeep 25 (by kernel_rfl)
          have k26 : b.tmps.getD 26 undef = sl 26 := hkeep 26 (by kernel_rfl)
          have k27 : b.tmps.getD 27 undef = sl 27 := hkeep 27 (by kernel_rfl)
          have k28 : b.tmps.getD 28 undef = sl 28 := hkeep 28 (by kernel_rfl)
          have k29 : b.tmps.getD 29 undef = sl 29 := hkeep 29 (by kernel_rfl)
          have k30 : b.tmps.getD 30 undef = sl 30 := hkeep 30 (by kernel_rfl)
          have k31 : b.tmps.getD 31 undef = sl 31 := hkeep 31 (by kernel_rfl)
          have k32 : b.tmps.getD 32 undef = sl 32 := hkeep 32 (by kernel_rfl)
          have k33 : b.tmps.getD 33 undef = sl 33 := hkeep 33 (by kernel_rfl)
          have k34 : b.tmps.getD 34 undef = sl 34 := hkeep 34 (by kernel_rfl)
          have k35 : b.tmps.getD 35 undef = sl 35 := hkeep 35 (by kernel_rfl)
          have k36 : b.tmps.getD 36 undef = sl 36 := hkeep 36 (by kernel_rfl)
          have k37 : b.tmps.getD 37 undef = sl 37 := hkeep 37 (by kernel_rfl)
          have k38 : b.tmps.getD 38 undef = .agg #[.slice (some ⟨g, 0, none⟩) nr nr, .slice A len cap, .int .i64 0, .slice none 0 0, .bool false, .slice none 0 0, .int .u64 0, .int .u64 18446744073709551615, .bool false, .bool false, .int .u32 0] := hkeep 38 (by kernel_rfl)
          have k69 : b.tmps.getD 69 undef = sl 69 := hkeep 69 (by kernel_rfl)
          have k9 : b.tmps.getD 9 undef = .int .i64 (k : Int) := hkeep 9 (by kernel_rfl)
          refine rj_lastv (by kernel_rfl) rfl (by kernel_rfl) rfl (by kernel_rfl) ?_
          obtain ⟨sl8, hlit, hsl⟩ := act_let b 70 hsz
          rw [hdef] at hlit
          rw [← hsl] at e10 e54 k0 k1 k2 k3 k4 k5 k7 k8 k12 k13 k14 k15 k16 k17 k18 k19 k20 k21 k22 k23 k24 k25 k26 k27 k28 k29 k30 k31 k32 k33 k34 k35 k36 k37 k38 k69 k9
          simp only [show List.range 70 = [0, 1, 2, 3, 4, 5, 6, 7, 8, 9, 10, 11, 12, 13, 14, 15, 16, 17, 18, 19, 20, 21, 22, 23, 24, 25, 26, 27, 28, 29, 30, 31, 32, 33, 34, 35, 36, 37, 38, 39, 40, 41, 42, 43, 44, 45, 46, 47, 48, 49, 50, 51, 52, 53, 54, 55, 56, 57, 58, 59, 60, 61, 62, 63, 64, 65, 66, 67, 68, 69] from rfl, List.map_cons, List.map_nil, e10, e54, k0, k1, k2, k3, k4, k5, k7, k8, k12, k13, k14, k15, k16, k17, k18, k19, k20, k21, k22, k23, k24, k25, k26, k27, k28, k29, k30, k31, k32, k33, k34, k35, k36, k37, k38, k69, k9] at hlit
          rw [hlit]
          have HS2 := Aside0.mk hs2
          have HN2 := Aside0.mk hn
          have HGW := Aside0.mk hinv.1
          have HG2 := Aside0.mk hg2
          clear hkeep hsz hdef e10 e53 e53' e54 k0 k1 k2 k3 k4 k5 k7 k8 k12 k13 k14 k15 k16 k17 k18 k19 k20 k21 k22 k23 k24 k25 k26 k27 k28 k29 k30 k31 k32 k33 k34 k35 k36 k37 k38 k69 k9 hsl hlit hpost hs2 hn hg2 hg1 hinv HST HSB HSB0 HI0 HGB s0 s1 s2 s3 s4
          go_simp
          go_wp2_with (first
            | (refine wpList_load_arr rfl 65 (.tmp 10) rfl G2 rfl cs2 HG2.out _ Tryd.underlying65 rfl (by rw [HN2.out.2.1]; kernel_rfl) ?_)
            | (refine wpList_store_arr rfl 65 (.tmp 8) (.tmp 55) rfl G rfl cs2 rfl cs 65 HGW.out (HNU.out.2.1.trans HN2.out.2.1.symm) (by rw [HN2.out.2.1]; kernel_rfl) HN2.out.2.2 ?_; intro w8 hf ho; have HG8 := Aside0.mk hf; have HS8 := Aside0.mk (HS2.out.box ⟨_, HGW.out, HNU.out.1⟩ ho HWG.out); clear hf ho))
          have HBL8 : Aside0 (Below W.heap.size W w8) := ⟨by obtain ⟨_, _, _, _, _, _, _, _, _, _, _, _, hM, _⟩ := HS8.out; exact hM.bel⟩
          clear HGW HG2 HS2 HNU
          refine wp_region_rj (by kernel_rfl) 13 (fun W' => Below w8.heap.size w8 W') (fun x y => Below x.heap.size x y) (fun i v w => match i with | 0 => v = .bool true | 1 => v = .bool false | 2 => v = .bool false | 3 => v = .pointer (some ⟨B, 0, none⟩) | 4 => v = .agg cs2 | 5 => v = .slice (some y) n2 cap2 | 6 => v = .int .i64 (k : Int) | 7 => v = .pointer (some (y.add (k * 5))) | 8 => v = .pointer (some ⟨(y.add (k * 5)).block, (y.add (k * 5)).off + 4, none⟩) | 9 => v = .int .u64 z4 | 10 => v = .bool true | 11 => v = .bool false | 12 => v = .bool false | _ => True) (by kernel_rfl) (fun j v w w' h _ => h) ⟨rfl, rfl, rfl, Nat.le_refl _, fun _ _ => rfl⟩ ?step ?fin
          case step =>
            intro i op hi him b W' hinv hkeep hdef hpre K hK
            have HI := Aside0.mk hinv
            have HPRE := Aside0.mk hpre
            have HKEEP := Aside0.mk hkeep
            have HKK := Aside0.mk hK
            clear hinv hpre hkeep hK hdef
            obtain rfl | rfl | rfl | rfl | rfl | rfl | rfl | rfl | rfl | rfl | rfl | rfl | rfl : i = 0 ∨ i = 1 ∨ i = 2 ∨ i = 3 ∨ i = 4 ∨ i = 5 ∨ i = 6 ∨ i = 7 ∨ i = 8 ∨ i = 9 ∨ i = 10 ∨ i = 11 ∨ i = 12 := by omega
            · cases hi
              have e11 : b.tmps.getD 11 undef = .bool true := HKEEP.out 11 (by kernel_rfl)
              rw [if_pos (by rfl)]
              go_simp
              exact HKK.out _ _ HI.out (Below.refl _ _) (by first | rfl | (simp; done))
            · cases hi
              have e56 : b.tmps.getD 56 undef = .bool true := HPRE.out 0 (by kernel_rfl) (by omega)
              rw [if_pos (by rfl)]
              go_simp
              exact HKK.out _ _ HI.out (Below.refl _ _) (by first | rfl | (simp; done))
            · cases hi
              have e57 : b.tmps.getD 57 undef = .bool false := HPRE.out 1 (by kernel_rfl) (by omega)
              rw [if_pos (by rfl)]
              go_simp
              exact HKK.out _ _ HI.out (Below.refl _ _) (by first | rfl | (simp; done))
            · cases hi
              have e58 : b.tmps.getD 58 undef = .bool false := HPRE.out 2 (by kernel_rfl) (by omega)
              have e7 : b.tmps.getD 7 undef = .pointer (some ⟨B, 0, none⟩) := HKEEP.out 7 (by kernel_rfl)
              rw [if_pos (wanted_yes rfl rfl rfl e58)]
              go_simp
              exact HKK.out _ _ HI.out (Below.refl _ _) (by first | rfl | (simp; done))
            · cases hi
              have e58 : b.tmps.getD 58 undef = .bool false := HPRE.out 2 (by kernel_rfl) (by omega)
              have e8 : b.tmps.getD 8 undef = .pointer (some ⟨G, 0, none⟩) := HKEEP.out 8 (by kernel_rfl)
              rw [if_pos (wanted_yes rfl rfl rfl e58)]
              refine wp_load_arr 65 (.tmp 8) rfl G e8 cs2 (blk_below HG8.out HI.out) _ Tryd.underlying65 rfl (by rw [HN2.out.2.1]; kernel_rfl) ?_
              exact HKK.out _ _ HI.out (Below.refl _ _) (by first | rfl | (simp; done))
            · cases hi
              have e58 : b.tmps.getD 58 undef = .bool false := HPRE.out 2 (by kernel_rfl) (by omega)
              have e2 : b.tmps.getD 2 undef = .slice (some y) n2 cap2 := HKEEP.out 2 (by kernel_rfl)
              rw [if_pos (wanted_yes rfl rfl rfl e58)]
              go_simp
              exact HKK.out _ _ HI.out (Below.refl _ _) (by first | rfl | (simp; done))
            · cases hi
              have e58 : b.tmps.getD 58 undef = .bool false := HPRE.out 2 (by kernel_rfl) (by omega)
              have e9 : b.tmps.getD 9 undef = .int .i64 (k : Int) := HKEEP.out 9 (by kernel_rfl)
              rw [if_pos (wanted_yes rfl rfl rfl e58)]
              go_simp
              exact HKK.out _ _ HI.out (Below.refl _ _) (by first | rfl | (simp; done))
            · cases hi
              have e58 : b.tmps.getD 58 undef = .bool false := HPRE.out 2 (by kernel_rfl) (by omega)
              have e61 : b.tmps.getD 61 undef = .slice (some y) n2 cap2 := HPRE.out 5 (by kernel_rfl) (by omega)
              have e62 : b.tmps.getD 62 undef = .int .i64 (k : Int) := HPRE.out 6 (by kernel_rfl) (by omega)
              rw [if_pos (wanted_yes rfl rfl rfl e58)]
              go_simp
              exact HKK.out _ _ HI.out (Below.refl _ _) (by first | rfl | (simp; done))
            · cases hi
              have e58 : b.tmps.getD 58 undef = .bool false := HPRE.out 2 (by kernel_rfl) (by omega)
              have e63 : b.tmps.getD 63 undef = .pointer (some (y.add (k * 5))) := HPRE.out 7 (by kernel_rfl) (by omega)
              rw [if_pos (wanted_yes rfl rfl rfl e58)]
              go_simp
              exact HKK.out _ _ HI.out (Below.refl _ _) (by first | rfl | (simp; done))
            · cases hi
              have e58 : b.tmps.getD 58 undef = .bool false := HPRE.out 2 (by kernel_rfl) (by omega)
              have e64 : b.tmps.getD 64 undef = .pointer (some ⟨(y.add (k * 5)).block, (y.add (k * 5)).off + 4, none⟩) := HPRE.out 8 (by kernel_rfl) (by omega)
              have t4 : W'.cell? ⟨(y.add (k * 5)).block, (y.add (k * 5)).off + 4, none⟩ = some (.int .u64 z4) := ((Below.cell (below_on HBL8.out HI.out) (p := ⟨(y.add (k * 5)).block, (y.add (k * 5)).off + 4, none⟩) HYW.out).trans ((Below.cell HBL.out (p := ⟨(y.add (k * 5)).block, (y.add (k * 5)).off + 4, none⟩) HYW.out).symm)).trans HZ4.out
              rw [if_pos (wanted_yes rfl rfl rfl e58)]
              go_simp
              exact HKK.out _ _ HI.out (Below.refl _ _) (by first | rfl | (simp; done))
            · cases hi
              have e58 : b.tmps.getD 58 undef = .bool false := HPRE.out 2 (by kernel_rfl) (by omega)
              have e59 : b.tmps.getD 59 undef = .pointer (some ⟨B, 0, none⟩) := HPRE.out 3 (by kernel_rfl) (by omega)
              have e60 : b.tmps.getD 60 undef = .agg cs2 := HPRE.out 4 (by kernel_rfl) (by omega)
              have e65 : b.tmps.getD 65 undef = .int .u64 z4 := HPRE.out 9 (by kernel_rfl) (by omega)
              rw [if_pos (wanted_yes rfl rfl rfl e58)]
              go_simp
              obtain ⟨X9, l9, gs9, came9, q9, over9, out9, o9, m9, s9, off9, code9, hM9, hV9, ⟨_, _, ho9⟩, _⟩ := HS8.out.below HI.out
              refine (bsame_calls z4 hM9 hV9 (by have := HLN.out; have := HLT.out; omega) (sarr len f) (fun w' hb => HCL.out w' (below_on hM9.bel hb)) (by simp [sarr]) HLC.out).mono ?_
              rintro e W2 ⟨rfl, d⟩
              exact HKK.out _ _ (below_on HI.out d) d rfl
            · cases hi
              have e58 : b.tmps.getD 58 undef = .bool false := HPRE.out 2 (by kernel_rfl) (by omega)
              have e66 : b.tmps.getD 66 undef = .bool true := HPRE.out 10 (by kernel_rfl) (by omega)
              rw [if_pos (wanted_yes rfl rfl rfl e58)]
              go_simp
              exact HKK.out _ _ HI.out (Below.refl _ _) (by first | rfl | (simp; done))
            · cases hi
              have e58 : b.tmps.getD 58 undef = .bool false := HPRE.out 2 (by kernel_rfl) (by omega)
              have e67 : b.tmps.getD 67 undef = .bool false := HPRE.out 11 (by kernel_rfl) (by omega)
              rw [if_pos (by rfl)]
              go_simp
              exact HKK.out _ _ HI.out (Below.refl _ _) (by first | rfl | (simp; done))
          case fin =>
            intro b W' hinv hsz hdef hkeep hpost
            have e68 : b.tmps.getD 68 undef = .bool false := hpost 12 (by omega)
            have k0 : b.tmps.getD 0 undef = .int .i64 (nr : Int) := hkeep 0 (by kernel_rfl)
            have k1 : b.tmps.getD 1 undef = .slice A len cap := hkeep 1 (by kernel_rfl)
            have k2 : b.tmps.getD 2 undef = .slice (some y) n2 cap2 := hkeep 2 (by kernel_rfl)
            have k3 : b.tmps.getD 3 undef = sl 3 := hkeep 3 (by kernel_rfl)
            have k4 : b.tmps.getD 4 undef = sl 4 := hkeep 4 (by kernel_rfl)
            have k5 : b.tmps.getD 5 undef = sl 5 := hkeep 5 (by kernel_rfl)
            have k7 : b.tmps.getD 7 undef = .pointer (some ⟨B, 0, none⟩) := hkeep 7 (by kernel_rfl)
            have k8 : b.tmps.getD 8 undef = .pointer (some ⟨G, 0, none⟩) := hkeep 8 (by kernel_rfl)
            have k12 : b.tmps.getD 12 undef = sl 12 := hkeep 12 (by kernel_rfl)
            have k13 : b.tmps.getD 13 undef = sl 13 := hkeep 13 (by kernel_rfl)
            have k14 : b.tmps.getD 14 undef = sl 14 := hkeep 14 (by kernel_rfl)
            have k15 : b.tmps.getD 15 undef = sl 15 := hkeep 15 (by kernel_rfl)
            have k16 : b.tmps.getD 16 undef = sl 16 := hkeep 16 (by kernel_rfl)
            have k17 : b.tmps.getD 17 undef = sl 17 := hkeep 17 (by kernel_rfl)
            have k18 : b.tmps.getD 18 undef = sl 18 := hkeep 18 (by kernel_rfl)
            have k19 : b.tmps.getD 19 undef = sl 19 := hkeep 19 (by kernel_rfl)
            have k20 : b.tmps.getD 20 undef = sl 20 := hkeep 20 (by kernel_rfl)
            have k21 : b.tmps.getD 21 undef = sl 21 := hkeep 21 (by kernel_rfl)
            have k22 : b.tmps.getD 22 undef = sl 22 := hkeep 22 (by kernel_rfl)
            have k23 : b.tmps.getD 23 undef = sl 23 := hkeep 23 (by kernel_rfl)
            have k24 : b.tmps.getD 24 undef = sl 24 := hkeep 24 (by kernel_rfl)
            have k25 : b.tmps.getD 25 undef = sl 25 := hkeep 25 (by kernel_rfl)
            have k26 : b.tmps.getD 26 undef = sl 26 := hkeep 26 (by kernel_rfl)
            have k27 : b.tmps.getD 27 undef = sl 27 := hkeep 27 (by kernel_rfl)
            have k28 : b.tmps.getD 28 undef = sl 28 := hkeep 28 (by kernel_rfl)
            have k29 : b.tmps.getD 29 undef = sl 29 := hkeep 29 (by kernel_rfl)
            have k30 : b.tmps.getD 30 undef = sl 30 := hkeep 30 (by kernel_rfl)
            have k31 : b.tmps.getD 31 undef = sl 31 := hkeep 31 (by kernel_rfl)
            have k32 : b.tmps.getD 32 undef = sl 32 := hkeep 32 (by kernel_rfl)
            have k33 : b.tmps.getD 33 undef = sl 33 := hkeep 33 (by kernel_rfl)
            have k34 : b.tmps.getD 34 undef = sl 34 := hkeep 34 (by kernel_rfl)
            have k35 : b.tmps.getD 35 undef = sl 35 := hkeep 35 (by kernel_rfl)
            have k36 : b.tmps.getD 36 undef = sl 36 := hkeep 36 (by kernel_rfl)
            have k37 : b.tmps.getD 37 undef = sl 37 := hkeep 37 (by kernel_rfl)
            have k38 : b.tmps.getD 38 undef = .agg #[.slice (some ⟨g, 0, none⟩) nr nr, .slice A len cap, .int .i64 0, .slice none 0 0, .bool false, .slice none 0 0, .int .u64 0, .int .u64 18446744073709551615, .bool false, .bool false, .int .u32 0] := hkeep 38 (by kernel_rfl)
            have k69 : b.tmps.getD 69 undef = sl 69 := hkeep 69 (by kernel_rfl)
            have k9 : b.tmps.getD 9 undef = .int .i64 (k : Int) := hkeep 9 (by kernel_rfl)
            refine rj_all (by rfl) (by kernel_rfl) ?_
            obtain ⟨sl9, hlit, hsl⟩ := act_let b 70 hsz
            rw [hdef] at hlit
            rw [← hsl] at e68 k0 k1 k2 k3 k4 k5 k7 k8 k12 k13 k14 k15 k16 k17 k18 k19 k20 k21 k22 k23 k24 k25 k26 k27 k28 k29 k30 k31 k32 k33 k34 k35 k36 k37 k38 k69 k9
            simp only [show List.range 70 = [0, 1, 2, 3, 4, 5, 6, 7, 8, 9, 10, 11, 12, 13, 14, 15, 16, 17, 18, 19, 20, 21, 22, 23, 24, 25, 26, 27, 28, 29, 30, 31, 32, 33, 34, 35, 36, 37, 38, 39, 40, 41, 42, 43, 44, 45, 46, 47, 48, 49, 50, 51, 52, 53, 54, 55, 56, 57, 58, 59, 60, 61, 62, 63, 64, 65, 66, 67, 68, 69] from rfl, List.map_cons, List.map_nil, e68, k0, k1, k2, k3, k4, k5, k7, k8, k12, k13, k14, k15, k16, k17, k18, k19, k20, k21, k22, k23, k24, k25, k26, k27, k28, k29, k30, k31, k32, k33, k34, k35, k36, k37, k38, k69, k9] at hlit
            rw [hlit]
            have HS9 := Aside0.mk (HS8.out.below hinv)
            have HG9 := Aside0.mk (blk_below HG8.out hinv)
            clear hkeep hsz hdef e68 k0 k1 k2 k3 k4 k5 k7 k8 k12 k13 k14 k15 k16 k17 k18 k19 k20 k21 k22 k23 k24 k25 k26 k27 k28 k29 k30 k31 k32 k33 k34 k35 k36 k37 k38 k69 k9 hsl hlit hpost hinv HS8 HG8 HBL8
            have e2 : wrap64 ((k : Int) + 1) = ((k + 1 : Nat) : Int) := by have := HLN.out; have := HLT.out; unfold wrap64; omega
            go_wp2_with fail
            have HG3 := HGK.out
            have HL3 := HLT.out
            have E2 := Aside0.mk e2
            clear e2
            go_roundg (gk - 1)
            case measure => omega
            case rel => exact ⟨k + 1, cs2, by omega, by omega, by first | exact congrArg (Value.int .i64) E2.out | (congr 1; done), HS9, HG9, HN2⟩
      · obtain rfl : k = n2 := by omega
        have hlt' : ((k : Int) < (k : Int)) = False := by simp
        go_wp2_with fail
        refine (bus_awake_calls _ (HP.out.below HBL.out)).mono ?_
        rintro e w9 ⟨rfl, b9⟩
        have B9 := Aside0.mk (below_on HBL.out b9)
        clear b9
        go_wp2_with fail
        go_ret
        exact ⟨rfl, B9.out⟩
theorem bus_plays (n : Int) (A : Option Addr) (len cap : Nat) (f : Nat → Nat → Int) (A2 : Option Addr) (n2 cap2 : Nat) (f2 : Nat → Nat → Int) (W : World) (_hw : (Lit.int .i64 n).wf = true) (hf : IsRows [.u64, .u8] W A len cap f) (hf2 : IsRows [.i64, .u32, .i64, .u32, .u64] W A2 n2 cap2 f2) (hP : Ports W) :
    Calls Tryd.prog 6 #[.int .i64 n, .slice A len cap, .slice A2 n2 cap2] W fun e w' => e = .returned (.bool true) ∧ Below W.heap.size W w' := by
  have hb := bright_f n
  cases hq : (decide (64 ≤ n) && decide (n ≤ 65536) && (n % 64 == 0)) with
  | false => rw [hq] at hb; exact plays_a n hb hP
  | true =>
    rw [hq] at hb
    simp at hq
    obtain ⟨⟨h1, h2⟩, h3⟩ := hq
    by_cases h5 : 512 < n
    · exact plays_b n hb h5 hP
    · obtain ⟨r, hr, _⟩ := rright_calls W hf
      have HR : Aside0 (∀ w, Below W.heap.size W w → Calls Tryd.prog 26 #[.slice A len cap] w fun e w' => e = .returned (.int .i64 r) ∧ Drawn0 w w') := ⟨fun w hw => by
        obtain ⟨r', hr', hc⟩ := rright_calls w (hf.below (by simp) hw)
        rw [right12_uniq hr' hr] at hc
        exact hc⟩
      rcases hr with ⟨rfl, hl, hs⟩ | ⟨rfl, _⟩ | ⟨rfl, _⟩
      · by_cases h6 : 100 < n2
        · exact plays_d n hb h5 HR h6 hP
        · obtain ⟨nr, rfl⟩ : ∃ nr : Nat, n = nr := ⟨n.toNat, by omega⟩
          exact plays_main nr A len cap f A2 n2 cap2 f2 W hb ⟨by omega, by omega, by omega⟩ hf hl hs HR (by omega) hf2 hP
      · exact plays_c n 1 hb h5 HR rfl hP
      · exact plays_c n 3 hb h5 HR rfl hP
end Go.Proofs.YtdalboofhckobaaDoor
