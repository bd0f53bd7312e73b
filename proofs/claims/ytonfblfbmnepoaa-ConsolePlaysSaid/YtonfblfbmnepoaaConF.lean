/- The console: Up. -/
import Derived.Test.YtonfblfbmnepoaaConE
import Derived.StillTailTactics
namespace Go.Proofs.Ytonfblfbmnepoaa
open Go Go.RowKit Go.Proofs.YtonfblfbmnepoaaW.PrintWords Go.Proofs.Ytonfblfbmnepoaa.FifoPlain
set_option linter.unusedVariables false
set_option linter.unusedSimpArgs false

/-- What comes up to a tick: how many came, what waits, was one lost? -/
def upL (t : Int) : List (Int × Int) → Nat × List Int × Bool → Nat × List Int × Bool
  | [], s => s
  | p :: r, (c, q, o) => if p.1 ≤ t then upL t r (c + 1, qpush q p.2, o || !decide (q.length < 16)) else (c, q, o)

theorem wf_push {q : List Int} {x : Int} (hq : ∀ y ∈ q, 0 ≤ y ∧ y < 256) (hx : 0 ≤ x ∧ x < 256) : ∀ y ∈ qpush q x, 0 ≤ y ∧ y < 256 := by
  intro y hy
  unfold qpush at hy
  split at hy
  · rcases List.mem_append.1 hy with h | h
    · exact hq y h
    · simp at h; subst h; exact hx
  · exact hq y hy
section
variable {X : Nat → Prop} {C F : Nat} {av vo : Value} {al : List (Int × Int)} {came : Nat} {q : List Int} {over : Bool} {out : List Int}
set_option maxRecDepth 100000 in
set_option maxHeartbeats 2000000 in
theorem up_calls (w : World) (t : Int) (t0 : 0 ≤ t) (t1 : t < 18446744073709551616) (h : IsCon w X C F av vo al came q over out) :
    Calls Try.prog 32 #[.pointer (some ⟨C, 0, none⟩), .int .u64 t] w fun e w' => e = .returned (.tuple #[]) ∧ IsCon w' X C F av vo al (upL t (al.drop came) (came, q, over)).1 (upL t (al.drop came) (came, q, over)).2.1 (upL t (al.drop came) (came, q, over)).2.2 out ∧ OnlyP X w w' := by
  obtain ⟨R, hR⟩ : ∃ R, upL t (al.drop came) (came, q, over) = R := ⟨_, rfl⟩
  rw [hR]
  have H := Aside0.mk h
  have HR := Aside0.mk hR
  have HO : Aside0 (OnlyP X w w) := ⟨OnlyP.refl X w⟩
  obtain ⟨n, hal⟩ : ∃ n, al.length = n := ⟨_, rfl⟩
  have HL := Aside0.mk hal
  have hlc := h.lc
  have hll := h.ll
  rw [hal] at hlc hll
  clear h hR hal
  obtain ⟨W0, hW0⟩ : ∃ W0, w = W0 := ⟨_, rfl⟩
  have HO : Aside0 (OnlyP X W0 w) := ⟨hW0 ▸ HO.out⟩
  have H : Aside0 (IsCon W0 X C F av vo al came q over out) := ⟨hW0 ▸ H.out⟩
  rw [hW0] at HO ⊢
  clear hW0
  go_enter Try.func32, Try.ntmps32
  go_wp2_with fail
  go_loopg [] (n + 1 - came) (fun g wr => ∃ (k : Nat) (q' : List Int) (o' : Bool), g + k = n + 1 ∧ k ≤ n ∧ Aside0 (IsCon wr X C F av vo al k q' o' out) ∧ Aside0 (OnlyP X W0 wr) ∧ Aside0 (upL t (al.drop k) (k, q', o') = R))
  case atStart => exact ⟨came, q, over, by omega, by omega, H, HO, HR⟩
  case round =>
    obtain ⟨k, q', o', hk, hkn, hi, ho, hu⟩ := hrel
    obtain ⟨wo, rfl⟩ : ∃ wo : World, wo = wr := ⟨_, rfl⟩
    by_cases hlt : k < n
    · have hkl : k < al.length := by rw [HL.out]; exact hlt
      have hp := List.getElem?_eq_getElem hkl
      have hdrop : al.drop k = al[k] :: al.drop (k + 1) := List.drop_eq_getElem_cons hkl
      obtain ⟨g0, cl, hav, a0, a1⟩ := hi.out.arr hp
      have hx := hi.out.wa _ (List.getElem_mem hkl)
      generalize al[k] = p at hp hdrop a0 a1 hx
      obtain ⟨tk, bk⟩ := p
      rw [HL.out] at hav
      have hu1 := hu.out
      rw [hdrop] at hu1
      simp only [upL] at hu1
      simp only at a0 a1 hx
      have c0 : ∀ m, (wo.drewN m).cell? ⟨C, 0, none⟩ = some (.slice (some ⟨g0, 0, none⟩) n cl) := fun m => by rw [← hav]; exact hi.out.c0
      have c1 : ∀ m, (wo.drewN m).cell? ⟨C, 1, none⟩ = some (.int .i64 (k : Int)) := fun m => hi.out.c1
      have e0 : ∀ m, (wo.drewN m).cell? ⟨g0, k * 2, none⟩ = some (.int .u64 tk) := fun m => a0
      have c0' : wo.cell? ⟨C, 0, none⟩ = some (.slice (some ⟨g0, 0, none⟩) n cl) := c0 0
      have c1' : wo.cell? ⟨C, 1, none⟩ = some (.int .i64 (k : Int)) := c1 0
      have HX := Aside0.mk hx
      have HAV := Aside0.mk hav
      have A1 := Aside0.mk a1
      by_cases hle : tk ≤ t
      · rw [if_pos hle] at hu1
        have hr := Aside0.mk hu1
        have hd : decide (tk ≤ t) = true := decide_eq_true hle
        have hd0 : decide ((k : Int) < (n : Int)) = true := decide_eq_true (by omega)
        clear hle hu1 hu hp hdrop hx hav a1
        go_wp2_with fail
        go_quiet (fail)
        have H1 := Aside0.mk (hi.out.drewN (nq + 1))
        have O1 := Aside0.mk (ho.out.drawn ⟨⟨nq + 1, rfl⟩⟩)
        have r1 : ∀ w, w = wo.drewN nq → w.cell? ⟨g0, k * 2 + 1, none⟩ = some (.int .u8 bk) := fun w h => h ▸ A1.out
        have r2 : ∀ w, w = wo.drewN nq → w.cell? ⟨C, 2, none⟩ = some (.pointer (some ⟨F, 0, none⟩)) := fun w h => h ▸ hi.out.c2
        have s0 := c0 nq
        have s1 := c1 nq
        have s2 := r2 _ rfl
        have s3 := r1 _ rfl
        have H2 : ∀ w, w = wo.drewN nq → IsCon w.drew X C F av vo al k q' o' out ∧ OnlyP X W0 w.drew := fun w h => h ▸ ⟨hi.out.drewN (nq + 1), ho.out.drawn ⟨⟨nq + 1, rfl⟩⟩⟩
        have H2 := Aside0.mk (H2 _ rfl)
        clear c0 c1 e0 c0' c1' r1 r2 hi ho a0 H1 O1
        generalize wo.drewN nq = wz at s0 s1 s2 s3 H2 ⊢
        go_wp2_with fail
        have z0 : World.cell? { heap := wz.heap, tape := wz.tape, drawn := wz.drawn + 1, os := wz.os, output := wz.output } ⟨C, 0, none⟩ = some (.slice (some ⟨g0, 0, none⟩) n cl) := s0
        have z1 : World.cell? { heap := wz.heap, tape := wz.tape, drawn := wz.drawn + 1, os := wz.os, output := wz.output } ⟨C, 1, none⟩ = some (.int .i64 (k : Int)) := s1
        have z2 : World.cell? { heap := wz.heap, tape := wz.tape, drawn := wz.drawn + 1, os := wz.os, output := wz.output } ⟨C, 2, none⟩ = some (.pointer (some ⟨F, 0, none⟩)) := s2
        have z3 : World.cell? { heap := wz.heap, tape := wz.tape, drawn := wz.drawn + 1, os := wz.os, output := wz.output } ⟨g0, k * 2 + 1, none⟩ = some (.int .u8 bk) := s3
        go_still_tail 15, (by kernel_rfl)
        change wpList _ _ _ _ _ wz.drew
        generalize wz.drew = w2 at H2 ⊢
        clear s0 s1 s2 s3 z0 z1 z2 z3
        go_wp2_with fail
        refine (push_calls _ _ _ bk H2.out.1.f).mono ?_
        rintro e w3 ⟨rfl, f3, o3⟩
        have H3 := Aside0.mk (H2.out.1.setF f3 o3 (wf_push H2.out.1.wq HX.out.2))
        have O3 := Aside0.mk (H2.out.2.trans (.of_only o3 H2.out.1.xf))
        clear f3 o3 H2
        have XC := Aside0.mk H3.out.xc
        obtain ⟨q2, hq2⟩ : ∃ q2, qpush q' bk = q2 := ⟨_, rfl⟩
        obtain ⟨b, hb⟩ : ∃ b, decide (q'.length < 16) = b := ⟨_, rfl⟩
        rw [hq2] at H3 hr
        rw [hb] at hr ⊢
        clear hq2 hb
        cases b with
        | true =>
          have H4 := Aside0.mk (H3.out.setCame (k + 1) hkl)
          have O4 := Aside0.mk (O3.out.trans (.of_only ((Only.refl C w3).setCell 1 (.int .i64 ((k + 1 : Nat) : Int))) XC.out))
          have d1 := H3.out.c1
          have zf : w3.frozen? ⟨C, 1, none⟩ = false := blk_frozen H3.out.c _
          have hrr : Aside0 (upL t (al.drop (k + 1)) (k + 1, q2, o') = R) := ⟨by have := hr.out; simpa using this⟩
          clear hr
          rw [show ((k + 1 : Nat) : Int) = (k : Int) + 1 by omega] at H4 O4
          go_wp2_with fail
          go_roundg (gk - 1)
          case measure => omega
          case rel => exact ⟨k + 1, q2, o', by omega, by omega, H4, O4, hrr⟩
        | false =>
          have zf0 : w3.frozen? ⟨C, 3, none⟩ = false := blk_frozen H3.out.c _
          have d3 := H3.out.c3
          have HO := Aside0.mk (H3.out.setOver true)
          have O5 := Aside0.mk (O3.out.trans (.of_only ((Only.refl C w3).setCell 3 (.bool true)) XC.out))
          have d1 : (w3.setCell ⟨C, 3, none⟩ (.bool true)).cell? ⟨C, 1, none⟩ = some (.int .i64 (k : Int)) := HO.out.c1
          have zf : (w3.setCell ⟨C, 3, none⟩ (.bool true)).frozen? ⟨C, 1, none⟩ = false := blk_frozen HO.out.c _
          have H4 := Aside0.mk (HO.out.setCame (k + 1) hkl)
          have O4 := Aside0.mk (O5.out.trans (.of_only ((Only.refl C (w3.setCell ⟨C, 3, none⟩ (.bool true))).setCell 1 (.int .i64 ((k + 1 : Nat) : Int))) XC.out))
          have hrr : Aside0 (upL t (al.drop (k + 1)) (k + 1, q2, true) = R) := ⟨by have := hr.out; simpa using this⟩
          clear hr HO O5
          rw [show ((k + 1 : Nat) : Int) = (k : Int) + 1 by omega] at H4 O4
          go_wp2_with fail
          go_roundg (gk - 1)
          case measure => omega
          case rel => exact ⟨k + 1, q2, true, by omega, by omega, H4, O4, hrr⟩
      · rw [if_neg hle] at hu1
        have hr := Aside0.mk hu1
        have hd : decide (tk ≤ t) = false := decide_eq_false hle
        have hd0 : decide ((k : Int) < (n : Int)) = true := decide_eq_true (by omega)
        clear hle hu1 hu hp hdrop hx hav a1
        go_wp2_with fail
        go_quiet (fail)
        have H1 := Aside0.mk (hi.out.drewN nq)
        have O1 := Aside0.mk (ho.out.drawn ⟨⟨nq, rfl⟩⟩)
        go_wp2_with fail
        go_end0
        rw [← hr.out]
        exact ⟨rfl, H1.out, O1.out⟩
    · obtain rfl : k = n := by omega
      have hu1 := hu.out
      rw [List.drop_of_length_le (by rw [HL.out]; exact Nat.le_refl _)] at hu1
      simp only [upL] at hu1
      have hr := Aside0.mk hu1
      clear hu1 hu
      obtain ⟨A, cl, hav, _⟩ := hi.out.av_eq
      rw [HL.out] at hav
      have c0 : ∀ m, (wo.drewN m).cell? ⟨C, 0, none⟩ = some (.slice A k cl) := fun m => by rw [← hav]; exact hi.out.c0
      have c1 : ∀ m, (wo.drewN m).cell? ⟨C, 1, none⟩ = some (.int .i64 (k : Int)) := fun m => hi.out.c1
      have c0' : wo.cell? ⟨C, 0, none⟩ = some (.slice A k cl) := c0 0
      have c1' : wo.cell? ⟨C, 1, none⟩ = some (.int .i64 (k : Int)) := c1 0
      have hd0 : decide ((k : Int) < (k : Int)) = false := decide_eq_false (by omega)
      clear hav
      go_wp2_with fail
      go_quiet (fail)
      have H1 := Aside0.mk (hi.out.drewN nq)
      have O1 := Aside0.mk (ho.out.drawn ⟨⟨nq, rfl⟩⟩)
      go_wp2_with fail
      go_end0
      rw [← hr.out]
      exact ⟨rfl, H1.out, O1.out⟩
end
end Go.Proofs.Ytonfblfbmnepoaa
