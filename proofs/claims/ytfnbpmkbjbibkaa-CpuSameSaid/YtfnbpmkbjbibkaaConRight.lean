/- The statements' arguments, and which of them may be: mimesisref12.Right. -/
import Derived.Test.YtfnbpmkbjbibkaaConG
import Derived.Test.YtfnbpmkbjbibkaaOpensRows
import Derived.Test.YtfnbpmkbjbibkaaQCpuSamex
namespace Go.Proofs.Ytfnbpmkbjbibkaa
open Go Go.RowKit Go.Proofs.YtfnbpmkbjbibkaaW.PrintWords
set_option linter.unusedVariables false
set_option linter.unusedSimpArgs false

/-- The arrivals of an argument. -/
def arrs (len : Nat) (f : Nat → Nat → Int) : List (Int × Int) := (List.range len).map fun i => (f i 0, f i 1)
theorem arrs_length (len : Nat) (f : Nat → Nat → Int) : (arrs len f).length = len := by simp [arrs]
theorem arrs_get {len : Nat} {f : Nat → Nat → Int} {i : Nat} {p : Int × Int} (h : (arrs len f)[i]? = some p) : i < len ∧ p = (f i 0, f i 1) := by
  have hi : i < len := by have := (List.getElem?_eq_some_iff.1 h).1; rwa [arrs_length] at this
  refine ⟨hi, ?_⟩
  simp [arrs, hi] at h
  exact h.symm
theorem arrs_at {len : Nat} {f : Nat → Nat → Int} {i : Nat} (h : i < len) : (arrs len f)[i]? = some (f i 0, f i 1) := by simp [arrs, h]
section
variable {w : World} {A : Option Addr} {len cap : Nat} {f : Nat → Nat → Int}
theorem rows_AR (h : IsRows [.u64, .u8] w A len cap f) : AR w A (arrs len f) := fun i p hp => by
  obtain ⟨hi, rfl⟩ := arrs_get hp
  obtain ⟨x, rfl, hx⟩ := h.at_ hi
  have h0 := (hx 0 .u64 rfl).1
  have h1 := (hx 1 .u8 rfl).1
  exact ⟨x, rfl, h0, h1⟩
theorem rows_wf (h : IsRows [.u64, .u8] w A len cap f) {i : Nat} (hi : i < len) : (0 ≤ f i 0 ∧ f i 0 < 18446744073709551616) ∧ 0 ≤ f i 1 ∧ f i 1 < 256 := by
  obtain ⟨x, rfl, hx⟩ := h.at_ hi
  have h0 := (hx 0 .u64 rfl).2
  have h1 := (hx 1 .u8 rfl).2
  simp [Lit.wf, IntKind.min, IntKind.max, IntKind.bits, IntKind.signed] at h0 h1
  omega
theorem rows_wa (h : IsRows [.u64, .u8] w A len cap f) : ∀ p ∈ arrs len f, (0 ≤ p.1 ∧ p.1 < 18446744073709551616) ∧ 0 ≤ p.2 ∧ p.2 < 256 := by
  intro p hp
  obtain ⟨i, hi, hpi⟩ := List.getElem_of_mem hp
  obtain ⟨h1, rfl⟩ := arrs_get (p := p) (by rw [List.getElem?_eq_getElem hi, hpi])
  exact rows_wf h h1
theorem rows_nil (h : IsRows [.u64, .u8] w A len cap f) : A = none → arrs len f = [] ∧ cap = 0 := by
  rintro rfl
  rcases h with ⟨_, rfl, rfl⟩ | ⟨x, h, _⟩
  · exact ⟨rfl, rfl⟩
  · cases h
open QCpuSame
def sarr (len : Nat) (f : Nat → Nat → Int) : List S145 := (List.range len).map fun i => ⟨f i 0, f i 1⟩
theorem rows_C (h : IsRows [.u64, .u8] w A len cap f) : Kd.C k145 w A (sarr len f).length (sarr len f) := by
  have hl : (sarr len f).length = len := by simp [sarr]
  rcases h with ⟨rfl, rfl, rfl⟩ | ⟨x, rfl, hlc, hm, hc⟩
  · exact ⟨rfl, by simp [sarr], fun h => absurd h (by simp [sarr])⟩
  · refine ⟨rfl, by rw [hl]; unfold maxLen at hm; omega, fun _ => ⟨x, rfl, fun j p hp => ?_⟩⟩
    have hj : j < len := by have := (List.getElem?_eq_some_iff.1 hp).1; rwa [hl] at this
    have hp' : p = ⟨f j 0, f j 1⟩ := by simp [sarr, hj] at hp; exact hp.symm
    subst hp'
    refine ⟨_, rfl, k145_mk w _, fun i u hu => ?_⟩
    have hi : i = 0 ∨ i = 1 := by
      have := (List.getElem?_eq_some_iff.1 hu).1
      simp at this; omega
    rcases hi with rfl | rfl
    · simp at hu; subst hu; exact (hc j (by omega) 0 .u64 rfl).1
    · simp at hu; subst hu; exact (hc j (by omega) 1 .u8 rfl).1
end
open QCpuSame
theorem rd_sarr {len : Nat} {f : Nat → Nat → Int} {i : Nat} (h : i < len) : (rd_T145 (sarr len f) (i : Int)).f0 = f i 0 := by
  simp [rd_T145, sarr, List.getD_eq_getElem?_getD, h]
theorem right12_l0 (len : Nat) (f : Nat → Nat → Int) (hl : len ≤ 256) : ∀ d i, 1 ≤ i → i ≤ len + 1 → len + 1 < d + i → ∃ r, mimesisref12_Right.l0 d (sarr len f) (i : Int) = some r ∧ ((r = 0 ∧ ∀ j, i ≤ j → j < len → f (j - 1) 0 ≤ f j 0) ∨ (r = 1 ∧ ∃ j, i ≤ j ∧ j < len ∧ f j 0 < f (j - 1) 0 ∧ ∀ m, i ≤ m → m < j → f (m - 1) 0 ≤ f m 0)) := by
  intro d
  have hsl : (sarr len f).length = len := by simp [sarr]
  induction d with
  | zero => 
    intro i h1 h0 h2
    omega
  | succ d ih =>
    intro i h1 h0 h2
    unfold mimesisref12_Right.l0
    by_cases hi : i < len
    · have e1 : wrap64 ((i : Int) - 1) = ((i - 1 : Nat) : Int) := by unfold wrap64; omega
      have e2 : wrap64 ((i : Int) + 1) = ((i + 1 : Nat) : Int) := by unfold wrap64; omega
      rw [hsl, if_pos (by omega), if_pos (by omega), e1, e2, if_pos (by omega), if_pos (by omega), rd_sarr hi, rd_sarr (by omega)]
      by_cases hb : f i 0 < f (i - 1) 0
      · rw [if_pos hb]
        exact ⟨1, rfl, .inr ⟨rfl, i, Nat.le_refl _, hi, hb, fun m h3 h4 => by omega⟩⟩
      · rw [if_neg hb]
        obtain ⟨r, hr, hc⟩ := ih (i + 1) (by omega) (by omega) (by omega)
        refine ⟨r, hr, ?_⟩
        rcases hc with ⟨rfl, hc⟩ | ⟨rfl, j, h3, h4, h5, h6⟩
        · refine .inl ⟨rfl, fun j h3 h4 => ?_⟩
          rcases Nat.lt_or_eq_of_le h3 with h | h
          · exact hc j h h4
          · subst h; omega
        · refine .inr ⟨rfl, j, by omega, h4, h5, fun m h7 h8 => ?_⟩
          rcases Nat.lt_or_eq_of_le h7 with h | h
          · exact h6 m h h8
          · subst h; omega
    · rw [hsl, if_neg (by omega)]
      exact ⟨0, rfl, .inl ⟨rfl, fun j h3 h4 => by omega⟩⟩

/-- What Right says: 0: in order; 1: not, first at j; 3: too many. -/
def Right12 (len : Nat) (f : Nat → Nat → Int) (r : Int) : Prop :=
  (r = 0 ∧ len ≤ 256 ∧ aord (arrs len f) len) ∨ (r = 1 ∧ len ≤ 256 ∧ ∃ j, j + 1 < len ∧ f (j + 1) 0 < f j 0 ∧ ∀ m, m < j → f m 0 ≤ f (m + 1) 0) ∨ (r = 3 ∧ 256 < len)
theorem right12_f (len : Nat) (f : Nat → Nat → Int) (k : Nat) (hk : len + 1 ≤ k) : ∃ r, Right12 len f r ∧ mimesisref12_Right.f k (sarr len f) = some r := by
  have hsl : (sarr len f).length = len := by simp [sarr]
  unfold mimesisref12_Right.f
  rw [hsl]
  by_cases hl : 256 < len
  · rw [if_pos (by omega)]
    exact ⟨3, .inr (.inr ⟨rfl, hl⟩), rfl⟩
  · rw [if_neg (by omega)]
    obtain ⟨r, hr, hc⟩ := right12_l0 len f (by omega) k 1 (Nat.le_refl _) (by omega) (by omega)
    refine ⟨r, ?_, hr⟩
    rcases hc with ⟨rfl, hc⟩ | ⟨rfl, j, h3, h4, h5, h6⟩
    · refine .inl ⟨rfl, by omega, fun i p p' hi hp hp' => ?_⟩
      obtain ⟨_, rfl⟩ := arrs_get hp
      obtain ⟨_, rfl⟩ := arrs_get hp'
      exact hc (i + 1) (by omega) hi
    · refine .inr (.inl ⟨rfl, by omega, j - 1, by omega, ?_, fun m hm => ?_⟩)
      · rw [show j - 1 + 1 = j by omega]; exact h5
      · exact h6 (m + 1) (by omega) (by omega)
theorem rright_calls (w : World) {A : Option Addr} {len cap : Nat} {f : Nat → Nat → Int} (h : IsRows [.u64, .u8] w A len cap f) : ∃ r, Right12 len f r ∧ Calls Try.prog 52 #[.slice A len cap] w fun e w' => e = .returned (.int .i64 r) ∧ Drawn0 w w' := by
  have hsl : (sarr len f).length = len := by simp [sarr]
  have hlc : (sarr len f).length ≤ cap := by rw [hsl]; exact h.le.1
  have hC := rows_C h
  obtain ⟨r, hr, hf⟩ := right12_f len f (len + 1) (Nat.le_refl _)
  refine ⟨r, hr, ?_⟩
  have := mimesisref12_Right.calls (len + 1) A cap (sarr len f) r w hC hlc hf
  rwa [hsl] at this
end Go.Proofs.Ytfnbpmkbjbibkaa
