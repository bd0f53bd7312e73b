/- The program's new machine: made, or why not. (PK=QCpuNews and the like) -/
import Derived.Test.YtfnbpmkbjbibkaaQCpuSamex
import Derived.Test.YtfnbpmkbjbibkaaConRight
import Derived.Test.YtfnbpmkbjbibkaaRamE
import Derived.Test.YtfnbpmkbjbibkaaOpensMix
import Derived.Test.YtfnbpmkbjbibkaaFifoAny
import Derived.Test.YtfnbpmkbjbibkaaRamG
import Derived.Test.YtfnbpmkbjbibkaaCpuE
import Derived.Deep.LoopGhost
import Derived.Test.YtfnbpmkbjbibkaaConBad
namespace Go.Proofs.Ytfnbpmkbjbibkaa
open Go Go.RowKit Go.Proofs.YtfnbpmkbjbibkaaW.PrintWords Go.Proofs.Ytfnbpmkbjbibkaa.QCpuSame
set_option linter.unusedVariables false
set_option linter.unusedSimpArgs false

def pt (p : S51) : S113 := ⟨p.f0, p.f1⟩
/-- Are parts too long, n bytes having come? -/
def plongL : List S51 → Nat → Bool
  | [], _ => false
  | p :: ps, n => if 65536 < n + p.f1.length then true else plongL ps (n + p.f1.length)
def plong (l : List S51) : Bool := if 1024 < l.length then true else plongL l 0
def pin (n : Nat) (p : S51) : Bool := decide (p.f1.length = 0) || rhas n p.f0 p.f1.length
/-- What stands against parts in a memory of n bytes. -/
def whyL (n : Nat) (l : List S51) : Int := if plong l then 3 else if l.all (pin n) then 0 else 6
/-- The bytes behind parts. -/
def layL (b : List Int) : List S51 → List Int
  | [] => b
  | p :: ps => layL (if p.f1.length = 0 then b else b.take (p.f0 - 2147483648).toNat ++ p.f1 ++ b.drop ((p.f0 - 2147483648).toNat + p.f1.length)) ps
/-- Parts that the kinds let be. -/
def PW (l : List S51) : Prop := ∀ p ∈ l, (0 ≤ p.f0 ∧ p.f0 < 4294967296) ∧ p.f1.length ≤ 9223372036854775807
theorem rd_drop {α : Type} {l : List α} {i : Nat} {d p : α} {ps : List α} (h : l.drop i = p :: ps) : l.getD i d = p ∧ l.drop (i + 1) = ps ∧ i < l.length := by
  have hi : i < l.length := by
    rcases Nat.lt_or_ge i l.length with h1 | h1
    · exact h1
    · rw [List.drop_of_length_le h1] at h; cases h
  rw [List.drop_eq_getElem_cons hi] at h
  injection h with h1 h2
  exact ⟨by rw [List.getD_eq_getElem?_getD, List.getElem?_eq_getElem hi, h1]; rfl, h2, hi⟩
theorem drop_nil {α : Type} {l : List α} {i : Nat} (h : l.drop i = []) : l.length ≤ i := by simpa using h
theorem rdT_pt (l : List S51) (i : Nat) : rd_T113 (l.map pt) (i : Int) = pt (rd_T51 l (i : Int)) := by
  simp only [rd_T113, rd_T51, Int.toNat_natCast, List.getD_eq_getElem?_getD, List.getElem?_map]
  cases l[i]? <;> rfl
theorem w64 {i : Nat} (h : i < 4611686018427387904) : wrap64 ((i : Int) + 1) = ((i + 1 : Nat) : Int) := by unfold wrap64; omega

theorem parts_l0 (l : List S51) (hl : l.length < 4398046511104) : ∀ (ps : List S51) (k i : Nat), l.drop i = ps → i ≤ l.length → ps.length < k → mimesislaw18_Parts.l0 k l ((l.take i).map pt) (i : Int) = some (l.map pt) := by
  intro ps
  induction ps with
  | nil =>
    intro k i h hi hk
    obtain ⟨k, rfl⟩ : ∃ m, k = m + 1 := ⟨k - 1, by simp at hk; omega⟩
    have := drop_nil h
    simp only [mimesislaw18_Parts.l0]
    rw [if_neg (by omega), List.take_of_length_le this]
  | cons p ps ih =>
    intro k i h hi hk
    obtain ⟨k, rfl⟩ : ∃ m, k = m + 1 := ⟨k - 1, by simp at hk; omega⟩
    obtain ⟨h1, h2, h3⟩ := rd_drop (d := z51) h
    simp only [mimesislaw18_Parts.l0]
    rw [if_pos (by omega), if_pos (by omega), if_pos (by simp; omega), w64 (by omega)]
    have e : (l.take i).map pt ++ [(⟨(rd_T51 l (i : Int)).f0, (rd_T51 l (i : Int)).f1⟩ : S113)] = (l.take (i + 1)).map pt := by
      have h4 : l[i]? = some p := by
        rw [List.getElem?_eq_getElem h3]
        rw [List.getD_eq_getElem?_getD, List.getElem?_eq_getElem h3] at h1
        exact congrArg some h1
      rw [List.take_add_one, h4, List.map_append]
      simp only [rd_T51, Int.toNat_natCast, h1]
      rfl
    rw [e]
    exact ih k (i + 1) h2 (by omega) (by simp at hk; omega)
theorem parts_f (l : List S51) (hl : l.length < 4398046511104) (k : Nat) (hk : l.length < k) : mimesislaw18_Parts.f k l = some (l.map pt) := parts_l0 l hl l k 0 rfl (by omega) hk

theorem ilong_l0 (l : List S51) (hl : l.length ≤ 1024) (hw : PW l) : ∀ (ps : List S51) (k i n : Nat), l.drop i = ps → ps.length < k → n ≤ 65536 → image_long.l0 k (n : Int) (l.map pt) (l.length : Int) (i : Int) = some (plongL ps n) := by
  intro ps
  induction ps with
  | nil =>
    intro k i n h hk hn
    obtain ⟨k, rfl⟩ : ∃ m, k = m + 1 := ⟨k - 1, by simp at hk; omega⟩
    have := drop_nil h
    simp only [image_long.l0]
    rw [if_neg (by omega)]
    rfl
  | cons p ps ih =>
    intro k i n h hk hn
    obtain ⟨k, rfl⟩ : ∃ m, k = m + 1 := ⟨k - 1, by simp at hk; omega⟩
    obtain ⟨h1, h2, h3⟩ := rd_drop (d := z51) h
    have hr : rd_T113 (l.map pt) (i : Int) = pt p := by
      rw [rdT_pt]; congr 1
    have hpl := (hw p (by have := List.mem_of_mem_drop (i := i) (l := l) (a := p) (by rw [h]; simp); exact this)).2
    simp only [image_long.l0]
    have e1 : wrap64 (65536 - (n : Int)) = ((65536 - n : Nat) : Int) := by unfold wrap64; omega
    rw [if_pos (by omega), if_pos (by omega), if_pos (by simp; omega), hr, e1, w64 (by omega)]
    show (if ((p.f1.length : Nat) : Int) > _ then _ else image_long.l0 k (wrap64 ((n : Int) + ((p.f1.length : Nat) : Int))) _ _ _) = _
    rw [plongL]
    by_cases hb : 65536 < n + p.f1.length
    · rw [if_pos (by omega), if_pos hb]
    · have e2 : wrap64 ((n : Int) + ((p.f1.length : Nat) : Int)) = ((n + p.f1.length : Nat) : Int) := by unfold wrap64; omega
      rw [if_neg (by omega), if_neg hb, e2]
      exact ih k (i + 1) (n + p.f1.length) h2 (by simp at hk; omega) (by omega)
theorem ilong_f (l : List S51) (hw : PW l) (k : Nat) (hk : l.length < k) : image_long.f k (l.map pt) = some (plong l) := by
  unfold image_long.f plong
  by_cases h : 1024 < l.length
  · rw [if_pos (by simp; omega), if_pos h]
  · rw [if_neg (by simp; omega), if_neg h]
    simpa using ilong_l0 l (by omega) hw l k 0 0 rfl hk (by decide)
theorem pin_eq (n : Nat) (hn : n ≤ 65536) (p : S51) (h0 : 0 ≤ p.f0) (h1 : p.f0 < 4294967296) (h2 : p.f1.length ≤ 9223372036854775807) : image_inside.f p.f0 p.f1 (n : Int) = some (pin n p) := by
  unfold image_inside.f pin rhas
  by_cases hz : p.f1.length = 0
  · rw [if_pos (by omega)]; simp [hz]
  · rw [if_neg (by omega)]
    by_cases ha : p.f0 ≥ 2147483648
    · rw [if_pos ha]
      by_cases hb : (p.f1.length : Int) ≤ n
      · rw [if_pos hb]
        have e1 : wrap64 ((n : Int) - (p.f1.length : Int)) = (n : Int) - p.f1.length := by unfold wrap64; omega
        have e2 : (p.f0 - 2147483648) % 4294967296 = p.f0 - 2147483648 := by omega
        rw [e1, e2]
        have g1 : decide (1 ≤ (p.f1.length : Int)) = true := by simp; omega
        have g2 : decide ((p.f1.length : Int) ≤ (n : Int)) = true := by simp; omega
        have g3 : decide (2147483648 ≤ p.f0) = true := by simp; omega
        simp only [hz, g1, g2, g3, decide_false, Bool.false_or, Bool.true_and]
      · rw [if_neg hb]
        have g2 : decide ((p.f1.length : Int) ≤ (n : Int)) = false := by simp; omega
        rw [g2]; simp [hz]
    · rw [if_neg ha]
      have g3 : decide (2147483648 ≤ p.f0) = false := by simp; omega
      rw [g3]; simp [hz]
theorem icheck_l0 (l : List S51) (n : Nat) (hn : n ≤ 65536) (hl : l.length ≤ 1024) (hw : PW l) : ∀ (ps : List S51) (k i : Nat), l.drop i = ps → ps.length < k → image_Check.l0 k (n : Int) (l.map pt) (l.length : Int) (i : Int) = some (if ps.all (pin n) then 0 else 6) := by
  intro ps
  induction ps with
  | nil =>
    intro k i h hk
    obtain ⟨k, rfl⟩ : ∃ m, k = m + 1 := ⟨k - 1, by simp at hk; omega⟩
    have := drop_nil h
    simp only [image_Check.l0]
    rw [if_neg (by omega)]
    rfl
  | cons p ps ih =>
    intro k i h hk
    obtain ⟨k, rfl⟩ : ∃ m, k = m + 1 := ⟨k - 1, by simp at hk; omega⟩
    obtain ⟨h1, h2, h3⟩ := rd_drop (d := z51) h
    have hr : rd_T113 (l.map pt) (i : Int) = pt p := by
      rw [rdT_pt]; congr 1
    have hp := hw p (by have := List.mem_of_mem_drop (i := i) (l := l) (a := p) (by rw [h]; simp); exact this)
    simp only [image_Check.l0]
    rw [if_pos (by omega), if_pos (by omega), if_pos (by simp; omega), hr, w64 (by omega)]
    show (image_inside.f p.f0 p.f1 (n : Int)).bind _ = _
    rw [pin_eq n hn p hp.1.1 hp.1.2 hp.2, Option.bind_some, List.all_cons]
    cases pin n p with
    | false => rw [if_neg (by decide)]; simp
    | true => rw [if_pos rfl, ih k (i + 1) h2 (by simp at hk; omega)]; simp
theorem icheck_f (l : List S51) (n : Nat) (hn : n ≤ 65536) (hw : PW l) (k : Nat) (hk : l.length < k) : image_Check.f k (l.map pt) (n : Int) = some (whyL n l) := by
  unfold image_Check.f whyL
  rw [ilong_f l hw k hk, Option.bind_some]
  cases hp : plong l with
  | true => rw [if_pos rfl, if_pos rfl]
  | false =>
    have hl : l.length ≤ 1024 := by
      unfold plong at hp
      rcases Nat.lt_or_ge 1024 l.length with h | h
      · rw [if_pos h] at hp; cases hp
      · exact h
    rw [if_neg (by decide), if_neg (by decide), List.length_map]
    exact icheck_l0 l n hn hl hw l k 0 rfl hk
/-- The document's 'too long', i parts having come, of n bytes. -/
def rlongL : List S51 → Nat → Nat → Bool
  | [], _, _ => false
  | p :: ps, n, i => if 1024 ≤ i then true else if 65536 < n + p.f1.length then true else rlongL ps (n + p.f1.length) (i + 1)
theorem rlong_l0 (l : List S51) (hl : l.length ≤ 4611686018427387000) (hw : PW l) : ∀ (ps : List S51) (k i n : Nat), l.drop i = ps → ps.length < k → n ≤ 65536 → mimesisref15_long.l0 k l (n : Int) (i : Int) = some (rlongL ps n i) := by
  intro ps
  induction ps with
  | nil =>
    intro k i n h hk hn
    obtain ⟨k, rfl⟩ : ∃ m, k = m + 1 := ⟨k - 1, by simp at hk; omega⟩
    have := drop_nil h
    simp only [mimesisref15_long.l0]
    rw [if_neg (by omega)]
    rfl
  | cons p ps ih =>
    intro k i n h hk hn
    obtain ⟨k, rfl⟩ : ∃ m, k = m + 1 := ⟨k - 1, by simp at hk; omega⟩
    obtain ⟨h1, h2, h3⟩ := rd_drop (d := z51) h
    have hr : rd_T51 l (i : Int) = p := by simp only [rd_T51, Int.toNat_natCast, h1]
    have hp := hw p (by have := List.mem_of_mem_drop (i := i) (l := l) (a := p) (by rw [h]; simp); exact this)
    simp only [mimesisref15_long.l0]
    rw [if_pos (by omega), if_pos (by omega), hr, rlongL, w64 (by omega)]
    have e : mn (p.f1.length : Int) 100000 = ((min p.f1.length 100000 : Nat) : Int) := by unfold mn; split <;> omega
    have e2 : wrap64 ((n : Int) + mn (p.f1.length : Int) 100000) = ((n + min p.f1.length 100000 : Nat) : Int) := by rw [e]; unfold wrap64; omega
    rw [e2]
    by_cases hi : 1024 ≤ i
    · rw [if_pos (by omega), if_pos hi]
    · rw [if_neg (by omega), if_neg hi]
      by_cases hb : 65536 < n + p.f1.length
      · rw [if_pos (by omega), if_pos hb]
      · rw [if_neg (by omega), if_neg hb, show n + min p.f1.length 100000 = n + p.f1.length by omega]
        exact ih k (i + 1) (n + p.f1.length) h2 (by simp at hk; omega) (by omega)
theorem rlong_few : ∀ (ps : List S51) (n i : Nat), i + ps.length ≤ 1024 → rlongL ps n i = plongL ps n
  | [], _, _, _ => rfl
  | p :: ps, n, i, h => by
    rw [rlongL, plongL, if_neg (by simp at h; omega), rlong_few ps _ _ (by simp at h; omega)]
theorem rlong_many : ∀ (ps : List S51) (n i : Nat), i ≤ 1024 → 1024 < i + ps.length → rlongL ps n i = true
  | [], n, i, h0, h => by simp at h; omega
  | p :: ps, n, i, h0, h => by
    rw [rlongL]
    split
    · rfl
    · split
      · rfl
      · exact rlong_many ps _ _ (by omega) (by simp at h; omega)
theorem rlong_f (l : List S51) (hl : l.length ≤ 4611686018427387000) (hw : PW l) (k : Nat) (hk : l.length < k) : mimesisref15_long.f k l = some (plong l) := by
  unfold mimesisref15_long.f plong
  have := rlong_l0 l hl hw l k 0 0 rfl hk (by decide)
  rw [show ((0 : Nat) : Int) = 0 from rfl] at this
  rw [this]
  congr 1
  by_cases h : 1024 < l.length
  · rw [if_pos h]; exact rlong_many l 0 0 (by decide) (by omega)
  · rw [if_neg h]; exact rlong_few l 0 0 (by omega)
theorem rhas_eq (n : Nat) (hn : n ≤ 65536) (b : List Int) (hb : b.length = n) (a m : Int) (a0 : 0 ≤ a) (a1 : a < 4294967296) (m1 : m ≤ 9223372036854775807) : mimesisref10_Has.f b a m = some (rhas n a m) := by
  unfold mimesisref10_Has.f rhas
  have e1 : wrap64 (wrap64 a - 2147483648) = a - 2147483648 := by unfold wrap64; omega
  rw [e1, hb]
  by_cases h1 : m ≥ 1
  · rw [if_pos h1]
    by_cases h2 : a - 2147483648 ≥ 0
    · rw [if_pos h2]
      by_cases h3 : m ≤ (n : Int)
      · rw [if_pos h3]
        have e2 : wrap64 ((n : Int) - m) = n - m := by unfold wrap64; omega
        have g1 : decide (1 ≤ m) = true := by simp; omega
        have g2 : decide (m ≤ (n : Int)) = true := by simp; omega
        have g3 : decide (2147483648 ≤ a) = true := by simp; omega
        rw [e2, g1, g2, g3]; simp
      · rw [if_neg h3]
        have g2 : decide (m ≤ (n : Int)) = false := by simp; omega
        rw [g2]; simp
    · rw [if_neg h2]
      have g3 : decide (2147483648 ≤ a) = false := by simp; omega
      rw [g3]; simp
  · rw [if_neg h1]
    have g1 : decide (1 ≤ m) = false := by simp; omega
    rw [g1]; simp
theorem rcheck_l0 (l : List S51) (n : Nat) (hn : n ≤ 65536) (b : List Int) (hb : b.length = n) (hl : l.length ≤ 1024) (hw : PW l) : ∀ (ps : List S51) (k i : Nat), l.drop i = ps → ps.length < k → mimesisref15_Check.l0 k l b (i : Int) = some (if ps.all (pin n) then 0 else 6) := by
  intro ps
  induction ps with
  | nil =>
    intro k i h hk
    obtain ⟨k, rfl⟩ : ∃ m, k = m + 1 := ⟨k - 1, by simp at hk; omega⟩
    have := drop_nil h
    simp only [mimesisref15_Check.l0]
    rw [if_neg (by omega)]
    rfl
  | cons p ps ih =>
    intro k i h hk
    obtain ⟨k, rfl⟩ : ∃ m, k = m + 1 := ⟨k - 1, by simp at hk; omega⟩
    obtain ⟨h1, h2, h3⟩ := rd_drop (d := z51) h
    have hr : rd_T51 l (i : Int) = p := by simp only [rd_T51, Int.toNat_natCast, h1]
    have hp := hw p (by have := List.mem_of_mem_drop (i := i) (l := l) (a := p) (by rw [h]; simp); exact this)
    simp only [mimesisref15_Check.l0]
    rw [if_pos (by omega), if_pos (by omega), hr, w64 (by omega), List.all_cons]
    by_cases hz : p.f1.length = 0
    · rw [if_neg (by omega), ih k (i + 1) h2 (by simp at hk; omega)]
      simp [pin, hz]
    · rw [if_pos (by omega), rhas_eq n hn b hb _ _ hp.1.1 hp.1.2 (by omega), Option.bind_some]
      have hpin : pin n p = rhas n p.f0 p.f1.length := by simp [pin, hz]
      rw [hpin]
      cases rhas n p.f0 p.f1.length with
      | false => rw [if_neg (by decide)]; simp
      | true => rw [if_pos rfl, ih k (i + 1) h2 (by simp at hk; omega)]; simp
theorem rcheck_f (l : List S51) (n : Nat) (hn : n ≤ 65536) (b : List Int) (hb : b.length = n) (hl : l.length ≤ 4611686018427387000) (hw : PW l) (k : Nat) (hk : l.length < k) : mimesisref15_Check.f k l b = some (whyL n l) := by
  unfold mimesisref15_Check.f whyL
  rw [rlong_f l hl hw k hk, Option.bind_some]
  cases hp : plong l with
  | true => rw [if_pos rfl, if_pos rfl]
  | false =>
    have hl : l.length ≤ 1024 := by
      unfold plong at hp
      rcases Nat.lt_or_ge 1024 l.length with h | h
      · rw [if_pos h] at hp; cases hp
      · exact h
    rw [if_neg (by decide), if_neg (by decide)]
    exact rcheck_l0 l n hn b hb hl hw l k 0 rfl hk
theorem whyL_ok {n : Nat} {l : List S51} (h : whyL n l = 0) : (∀ p ∈ l, pin n p = true) ∧ l.length ≤ 1024 := by
  unfold whyL at h
  split at h
  · cases h
  · rename_i hp
    split at h
    · rename_i ha
      refine ⟨fun p hp => List.all_eq_true.1 ha p hp, ?_⟩
      unfold plong at hp
      rcases Nat.lt_or_ge 1024 l.length with h1 | h1
      · rw [if_pos h1] at hp; exact absurd rfl hp
      · exact h1
    · cases h
theorem pin_at {n : Nat} {p : S51} (h : pin n p = true) (hz : p.f1.length ≠ 0) : 2147483648 ≤ p.f0 ∧ (p.f0 - 2147483648).toNat + p.f1.length ≤ n ∧ rhas n p.f0 p.f1.length = true := by
  have hr : rhas n p.f0 p.f1.length = true := by simpa [pin, hz] using h
  refine ⟨?_, ?_, hr⟩ <;> (unfold rhas at hr; simp at hr; omega)
/-- What stands against a new machine. -/
theorem why_f (n : Int) (l : List S51) (hl : l.length ≤ 4611686018427387000) (hw : PW l) (len : Nat) (f : Nat → Nat → Int) (k : Nat) (hk : l.length < k) (hk2 : len + 1 ≤ k) :
    ∃ r, Right12 len f r ∧ mimesisref18_Why.f k n l (sarr len f) = some (if (decide (64 ≤ n) && decide (n ≤ 65536) && (n % 64 == 0)) then (if whyL n.toNat l = 0 then r else whyL n.toNat l) else 4) := by
  obtain ⟨r, hr, hf⟩ := right12_f len f k hk2
  refine ⟨r, hr, ?_⟩
  unfold mimesisref18_Why.f mimesisref10_Right.f
  by_cases h1 : n ≥ 64
  · rw [if_pos h1]
    by_cases h2 : n ≤ 65536
    · rw [if_pos h2, Option.bind_some]
      have e : (Int.tmod n 64 == 0) = (n % 64 == 0) := by rw [Int.tmod_eq_emod_of_nonneg (by omega)]
      rw [e]
      have g1 : decide (64 ≤ n) = true := by simp; omega
      have g2 : decide (n ≤ 65536) = true := by simp; omega
      rw [g1, g2]
      cases h3 : (n % 64 == 0) with
      | false => rw [if_neg (by decide), if_neg (by decide)]
      | true =>
        rw [if_pos rfl, if_pos (by omega), if_pos (by omega), rcheck_f l n.toNat (by omega) _ (by simp) hl hw k hk, Option.bind_some]
        simp only [Bool.and_self, if_true]
        by_cases h4 : whyL n.toNat l = 0
        · rw [if_pos h4, if_pos h4, hf, Option.bind_some]
        · rw [if_neg h4, if_neg h4]
    · rw [if_neg h2, Option.bind_some, if_neg (by decide)]
      have g2 : decide (n ≤ 65536) = false := by simp; omega
      rw [g2]; simp
  · rw [if_neg h1, Option.bind_some, if_neg (by decide)]
    have g2 : decide (64 ≤ n) = false := by simp; omega
    rw [g2]; simp
end Go.Proofs.Ytfnbpmkbjbibkaa

namespace Go.Proofs.Ytfnbpmkbjbibkaa
open Go Go.RowKit Go.Deep Go.Proofs.YtfnbpmkbjbibkaaW.PrintWords Go.Proofs.Ytfnbpmkbjbibkaa.QCpuSame
set_option linter.unusedVariables false
set_option linter.unusedSimpArgs false

/-- The parts of an argument. -/
def prts (len : Nat) (f : Nat → Nat → Int) (nn : Nat → Nat) (b : Nat → List Int) : List S51 := (List.range len).map fun i => ⟨f i 0, (b i).take (nn i)⟩
section
variable {w : World} {A : Option Addr} {len cap : Nat} {f : Nat → Nat → Int} {p : Nat → Option Addr} {nn c : Nat → Nat} {b : Nat → List Int}
theorem prts_len : (prts len f nn b).length = len := by simp [prts]
theorem prts_at {i : Nat} (h : i < len) : (prts len f nn b)[i]? = some ⟨f i 0, (b i).take (nn i)⟩ := by simp [prts, h]
theorem mix_C (h : IsMix [.u32] w A len cap f p nn c b) : Kd.C k51 w A (prts len f nn b).length (prts len f nn b) := by
  have hl : (prts len f nn b).length = len := prts_len
  rcases h with ⟨rfl, rfl, rfl⟩ | ⟨x, rfl, hlc, hm, hc⟩
  · exact ⟨rfl, by simp [prts], fun h => absurd h (by simp [prts])⟩
  · refine ⟨rfl, by rw [hl]; unfold maxLen at hm; omega, fun _ => ⟨x, rfl, fun j p hp => ?_⟩⟩
    have hj : j < len := by have := (List.getElem?_eq_some_iff.1 hp).1; rwa [hl] at this
    obtain rfl := (Option.some.inj ((prts_at hj).symm.trans hp)).symm
    obtain ⟨h1, h2, h3⟩ := hc j (by omega)
    obtain ⟨g1, g2, g3⟩ := row_C h3
    refine ⟨_, rfl, k51_mk w ⟨f j 0, (b j).take (nn j)⟩ (A1 := _) (c1 := c j) (by simp only; omega) g1, fun i u hu => ?_⟩
    have hi : i = 0 ∨ i = 1 := by
      have := (List.getElem?_eq_some_iff.1 hu).1
      simp at this; omega
    rcases hi with rfl | rfl
    · simp at hu; subst hu; exact (h1 0 .u32 rfl).1
    · obtain rfl := (Option.some.inj hu).symm
      show w.cell? (x.add (j * 2 + 1)) = some (.slice (p j) ((b j).take (nn j)).length (c j))
      rw [g2]
      exact h2
theorem mix_PW (h : IsMix [.u32] w A len cap f p nn c b) : PW (prts len f nn b) := by
  intro q hq
  obtain ⟨i, hi, rfl⟩ := List.mem_map.1 hq
  rw [List.mem_range] at hi
  obtain ⟨x, rfl, hx⟩ := h.at_ hi
  obtain ⟨h1, h2, h3⟩ := hx
  have h4 := (h1 0 .u32 rfl).2
  obtain ⟨g1, g2, g3⟩ := row_C h3
  simp [Lit.wf, IntKind.min, IntKind.max, IntKind.bits, IntKind.signed] at h4
  show (0 ≤ f i 0 ∧ f i 0 < 4294967296) ∧ ((b i).take (nn i)).length ≤ 9223372036854775807
  exact ⟨by omega, g1.2.1⟩
theorem mix_V (h : IsMix [.u32] w A len cap f p nn c b) (base : Nat) : Kd.V k51 51 w base (fun _ => True) (.slice A (prts len f nn b).length cap) (prts len f nn b) :=
  Kd.V_mk (by rw [prts_len]; exact h.le.1) fun W' hW => (Kd.heap_iso _ (Kd.heap_pair (Kd.heap_int _) (Kd.heap_slice _ (Kd.heap_int _)))).C (fun k hk => hW k trivial hk) (mix_C h)
end
end Go.Proofs.Ytfnbpmkbjbibkaa

namespace Go.Proofs.Ytfnbpmkbjbibkaa
open Go Go.RowKit Go.Deep Go.Proofs.YtfnbpmkbjbibkaaW.PrintWords Go.Proofs.Ytfnbpmkbjbibkaa.QCpuSame
set_option linter.unusedVariables false
set_option linter.unusedSimpArgs false

theorem C_cells {w : World} {A : Option Addr} {xs : List Int} (h : (Kd.int .u8).C w A xs.length xs) (hn : xs.length ≠ 0) : ∃ ad, A = some ad ∧ ∀ i q, xs[i]? = some q → w.cell? (ad.add i) = some (.int .u8 q) := by
  obtain ⟨ad, rfl, _⟩ := Kd.at_int h 0 (by omega) (by omega)
  refine ⟨ad, rfl, fun i q hq => ?_⟩
  have hi := (List.getElem?_eq_some_iff.1 hq).1
  obtain ⟨ad', e, hc⟩ := Kd.at_int h (i : Int) (by omega) (by omega)
  cases e
  simp only [Int.toNat_natCast, rd, List.getD_eq_getElem?_getD, hq, Option.getD_some] at hc
  exact hc
theorem part_zero : (Try.prog.info? 113).bind (fun i => i.zero.map (·.cells)) = some #[.int .u32 0, .slice none 0 0] := by kernel_rfl
set_option maxRecDepth 100000 in
set_option maxHeartbeats 4000000 in
theorem lay_ok {w0 w : World} (hb : Below w0.heap.size w0 w) {R BB BW BG n k : Nat} {l : List Int} {ws : List Bool} {gs : List Int} (h : IsRam w R BB BW BG n k l ws gs) (hn : n ≤ 65536) (hBB : w0.heap.size ≤ BB) (ps : List S51) (A : Option Addr) (c : Nat) (hr : Kd.C k113 w0 A (ps.map pt).length (ps.map pt)) (hc : ps.length ≤ c) (hw : PW ps) (hok : whyL n ps = 0) :
    Calls Try.prog 45 #[.pointer (some ⟨R, 0, none⟩), .slice A ps.length c] w fun e w' => e = .returned (.int .i64 0) ∧ (∃ ws gs, IsRam w' R BB BW BG n k (layL l ps) ws gs) ∧ OnlyP (fun b => b = BB ∨ b = BW ∨ b = BG) w w' := by
  have H := Aside0.mk h
  have HN := Aside0.mk hn
  have HR := Aside0.mk hr
  have HW := Aside0.mk hw
  have HOK := Aside0.mk (whyL_ok hok)
  have HBB := Aside0.mk hBB
  have HB := Aside0.mk hb
  have HC := Aside0.mk (fun w' (hb' : Below w0.heap.size w0 w') => image_Check.calls (ps.length + 1) A c (ps.map pt) (n : Int) 0 w' (Kd.C_below hr hb') (by rw [List.length_map]; exact hc) (by rw [icheck_f ps n hn hw (ps.length + 1) (Nat.lt_succ_self _), hok]))
  have HLM : Aside0 ((ps.map pt).length = ps.length) := ⟨List.length_map _⟩
  rw [HLM.out] at HC
  have HOP : Aside0 (OnlyP (fun b => b = BB ∨ b = BW ∨ b = BG) w w) := ⟨OnlyP.refl _ _⟩
  clear h hr hw hok hBB hb hn
  obtain ⟨m, hm⟩ : ∃ m, ps.length = m := ⟨_, rfl⟩
  have HM := Aside0.mk hm
  rw [hm] at HC ⊢
  clear hm
  go_enter Try.func45, Try.ntmps45
  go_wp2_with fail
  refine (size_calls _ H.out).mono ?_
  rintro e w1 ⟨rfl, d1⟩
  have H1 := Aside0.mk (H.out.drawn d1)
  have B1 := Aside0.mk (drawn_below' HB.out d1)
  have O1 := Aside0.mk (HOP.out.drawn d1)
  clear d1 H HB HOP
  go_wp2_with fail
  refine (HC.out w1 B1.out).mono ?_
  rintro e w2 ⟨rfl, b2⟩
  have H2 := Aside0.mk (H1.out.below b2)
  have B2 := Aside0.mk (below_on B1.out b2)
  have O2 := Aside0.mk (O1.out.trans (OnlyP.of_below b2))
  clear b2 H1 B1 O1 HC
  go_wp2_with fail
  go_loopg [19] (m + 1) (fun g i wr => ∃ (j : Nat) (b : List Int), g + j = m + 1 ∧ j ≤ m ∧ i = .int .i64 (j : Int) ∧ Aside0 (IsRam wr R BB BW BG n k b ws gs) ∧ Aside0 (layL b (ps.drop j) = layL l ps) ∧ Aside0 (Below w0.heap.size w0 wr) ∧ Aside0 (OnlyP (fun b => b = BB ∨ b = BW ∨ b = BG) w wr))
  case atStart => exact ⟨0, l, by omega, by omega, rfl, H2, ⟨rfl⟩, B2, O2⟩
  case round =>
    obtain ⟨j, b, hgj, hjm, rfl, HI, HLJ, BR, OR⟩ := hrel
    obtain ⟨wo, rfl⟩ : ∃ wo : World, wo = wr := ⟨_, rfl⟩
    clear H2 B2 O2
    by_cases hlt : j < m
    · have hlt' : ((j : Int) < (m : Int)) = True := by simp; omega
      obtain ⟨p, hp⟩ : ∃ p, ps[j]? = some p := ⟨_, List.getElem?_eq_getElem (by rw [HM.out]; exact hlt)⟩
      have hdrop : ps.drop j = p :: ps.drop (j + 1) := by
        rw [List.drop_eq_getElem_cons (by rw [HM.out]; exact hlt)]
        rw [List.getElem?_eq_getElem (by rw [HM.out]; exact hlt)] at hp
        rw [Option.some.inj hp]
      obtain ⟨ad, A1, c1, rfl, e0, e1, hc1, hC1⟩ := at_T113 (Kd.C_below HR.out BR.out) (j : Int) (by omega) (by rw [HLM.out, HM.out]; omega)
      have hrd : rd_T113 (ps.map pt) (j : Int) = pt p := by
        simp only [rd_T113, Int.toNat_natCast, List.getD_eq_getElem?_getD, List.getElem?_map, hp, Option.map_some, Option.getD_some]
      rw [hrd] at e0 e1 hc1 hC1
      simp only [Int.toNat_natCast] at e0 e1
      obtain ⟨p0, p1⟩ := p
      simp only [pt] at e0 e1 hc1 hC1
      have HP := Aside0.mk (And.intro hp (And.intro hdrop (And.intro hc1 hC1)))
      clear hp hdrop hrd hc1 hC1
      go_upto_region 9 with fail
      have N0 : (wo.alloc (.cells #[.int .u32 p0, .slice A1 p1.length c1] 113)).cell? ⟨wo.heap.size, 0, none⟩ = some (.int .u32 p0) := (blk_cell (blk_new _ _) 0).trans rfl
      have N1 : (wo.alloc (.cells #[.int .u32 p0, .slice A1 p1.length c1] 113)).cell? ⟨wo.heap.size, 1, none⟩ = some (.slice A1 p1.length c1) := (blk_cell (blk_new _ _) 1).trans rfl
      have D5 := below_alloc (Below.refl wo.heap.size wo) (.cells #[.int .u32 p0, .slice A1 p1.length c1] 113)
      have H5 := Aside0.mk (HI.out.below D5)
      have B5 := Aside0.mk (below_on BR.out D5)
      have O5 := Aside0.mk (OR.out.trans (OnlyP.of_below D5))
      have BD5 := Aside0.mk D5
      clear D5 e0 e1
      generalize wo.alloc (.cells #[.int .u32 p0, .slice A1 p1.length c1] 113) = w5 at N0 N1 H5 B5 O5 BD5 ⊢
      generalize wo.heap.size = D at N0 N1 ⊢
      have hm : (⟨p0, p1⟩ : S51) ∈ ps := List.mem_of_getElem? HP.out.1
      have hpw := HW.out _ hm
      have hpin := HOK.out.1 _ hm
      simp only at hpw
      have HD : Aside0 (layL (if p1.length = 0 then b else b.take (p0 - 2147483648).toNat ++ p1 ++ b.drop ((p0 - 2147483648).toNat + p1.length)) (ps.drop (j + 1)) = layL l ps) := ⟨by have := HLJ.out; rw [HP.out.2.1, layL] at this; exact this⟩
      by_cases hz : p1.length = 0
      · obtain rfl : p1 = [] := List.eq_nil_of_length_eq_zero hz
        rw [if_pos hz] at HD
        clear hz hpin hpw hm HLJ HI BR OR
        go_wp2_with fail
        refine (fill_empty w5 R p0 A1 c1).mono ?_
        rintro e w6 ⟨rfl, d6⟩
        have H6 := Aside0.mk (H5.out.drawn d6)
        have B6 := Aside0.mk (drawn_below' B5.out d6)
        have O6 := Aside0.mk (O5.out.drawn d6)
        clear d6 H5 B5 O5 N0 N1
        go_wp2_with fail
        go_roundg (gk - 1)
        case measure => omega
        case rel => exact ⟨j + 1, b, by omega, by omega, by have := HOK.out.2; have := HM.out; congr 1; unfold wrap64; omega, H6, HD, B6, O6⟩
      · rw [if_neg hz] at HD
        obtain ⟨g1, g2, g3⟩ := pin_at hpin hz
        simp only at g1 g2 g3
        obtain ⟨ad2, rfl, hcell⟩ := C_cells (Kd.C_below HP.out.2.2.2 BD5.out) hz
        have HFI := Aside0.mk (fill_yes p0 (p0 - 2147483648).toNat p1.length c1 ad2 p1 H5.out HN.out g1 hpw.1.2 (by simpa using hz) g3 (by omega) g2 rfl hcell)
        clear hpin hpw hm HLJ HI BR OR hcell g3
        go_wp2_with fail
        refine HFI.out.mono ?_
        rintro e w6 ⟨rfl, h6, o6⟩
        have H6 := Aside0.mk h6
        have B6 := Aside0.mk (o6.below HBB.out B5.out)
        have O6 := Aside0.mk (O5.out.trans (OnlyP.of_only (P := fun b => b = BB ∨ b = BW ∨ b = BG) o6 (.inl rfl)))
        clear h6 o6 H5 B5 O5 N0 N1 HFI
        go_wp2_with fail
        go_roundg (gk - 1)
        case measure => omega
        case rel => exact ⟨j + 1, _, by omega, by omega, by have := HOK.out.2; have := HM.out; congr 1; unfold wrap64; omega, H6, HD, B6, O6⟩
    · obtain rfl : j = m := by omega
      have hlt' : ((j : Int) < (j : Int)) = False := by simp
      go_wp2_with fail
      go_ret
      have := HLJ.out
      rw [List.drop_of_length_le (by rw [HM.out]; exact Nat.le_refl _)] at this
      rw [← this]
      exact ⟨rfl, ⟨_, _, HI.out⟩, OR.out⟩
set_option maxRecDepth 100000 in
set_option maxHeartbeats 2000000 in
theorem lay_no {w : World} {R BB BW BG n k : Nat} {l : List Int} {ws : List Bool} {gs : List Int} (h : IsRam w R BB BW BG n k l ws gs) (hn : n ≤ 65536) (ps : List S51) (A : Option Addr) (c : Nat) (hr : Kd.C k113 w A (ps.map pt).length (ps.map pt)) (hc : ps.length ≤ c) (hw : PW ps) (x : Int) (hx : whyL n ps = x) (hx0 : x ≠ 0) :
    Calls Try.prog 45 #[.pointer (some ⟨R, 0, none⟩), .slice A ps.length c] w fun e w' => e = .returned (.int .i64 x) ∧ Below w.heap.size w w' := by
  have H := Aside0.mk h
  have HC := Aside0.mk (fun w' (hb' : Below w.heap.size w w') => image_Check.calls (ps.length + 1) A c (ps.map pt) (n : Int) x w' (Kd.C_below hr hb') (by rw [List.length_map]; exact hc) (by rw [icheck_f ps n hn hw (ps.length + 1) (Nat.lt_succ_self _), hx]))
  have HLM : Aside0 ((ps.map pt).length = ps.length) := ⟨List.length_map _⟩
  rw [HLM.out] at HC
  have hx1 : (x != 0) = true := by simpa using hx0
  clear h hr hw hx hn
  go_enter Try.func45, Try.ntmps45
  go_wp2_with fail
  refine (size_calls _ H.out).mono ?_
  rintro e w1 ⟨rfl, d1⟩
  have D1 := Aside0.mk d1.below
  clear d1 H
  go_wp2_with fail
  refine (HC.out w1 D1.out).mono ?_
  rintro e w2 ⟨rfl, b2⟩
  have B2 := Aside0.mk (below_on D1.out b2)
  clear b2 D1 HC
  go_wp2_with fail
  go_ret
  exact ⟨rfl, B2.out⟩
end Go.Proofs.Ytfnbpmkbjbibkaa

namespace Go.Proofs.Ytfnbpmkbjbibkaa
open Go Go.RowKit Go.Deep Go.Proofs.YtfnbpmkbjbibkaaW.PrintWords Go.Proofs.Ytfnbpmkbjbibkaa.QCpuSame
set_option linter.unusedVariables false
set_option linter.unusedSimpArgs false

/-- May a memory be so large? -/
def sizeOk (n : Int) : Bool := decide (64 ≤ n) && decide (n ≤ 65536) && (n % 64 == 0)
def newAns (n : Int) (l : List S51) (r : Int) : Int := if sizeOk n then (if whyL n.toNat l = 0 then r else whyL n.toNat l) else 4
theorem con_no (w : World) {A : Option Addr} {len cap : Nat} {f : Nat → Nat → Int} {r : Int} (h : IsRows [.u64, .u8] w A len cap f) (hr : Right12 len f r) (h0 : r ≠ 0) : Calls Try.prog 46 #[.slice A len cap] w fun e w' => e = .returned (.tuple #[.pointer none, .int .i64 r]) ∧ Drawn0 w w' := by
  rcases hr with ⟨rfl, _⟩ | ⟨rfl, hl, j, h1, h2, h3⟩ | ⟨rfl, hl⟩
  · exact absurd rfl h0
  · have := cnew_bad w A cap (arrs len f) (rows_AR h) (by rw [arrs_length]; exact hl) j _ _ (arrs_at (by omega)) (arrs_at h1) h2 (fun i p p' hi hp hp' => by
      obtain ⟨_, rfl⟩ := arrs_get hp
      obtain ⟨_, rfl⟩ := arrs_get hp'
      exact h3 i hi)
    rwa [arrs_length] at this
  · exact cnew_long w A len cap hl
set_option maxRecDepth 100000 in
set_option maxHeartbeats 2000000 in
theorem cpunew_size (w : World) (n : Int) (hn : sizeOk n = false) (A : Option Addr) (m c : Nat) (Ai : Option Addr) (len cap : Nat) :
    Calls Try.prog 13 #[.int .i64 n, .slice A m c, .slice Ai len cap] w fun e w' => e = .returned (.tuple #[.pointer none, .int .i64 4]) ∧ Below w.heap.size w w' := by
  have HN := Aside0.mk (new_no w n (by
    unfold sizeOk at hn
    rcases Bool.eq_false_or_eq_true (n % 64 == 0) with h | h
    · rw [h, Bool.and_true] at hn
      by_cases h1 : n < 64
      · simp [h1]
      · by_cases h2 : 65536 < n
        · simp [h2]
        · rw [decide_eq_true (show 64 ≤ n by omega), decide_eq_true (show n ≤ 65536 by omega)] at hn
          cases hn
    · have : (n % 64 != 0) = true := by simp [bne, h]
      rw [this]; simp))
  clear hn
  go_enter Try.func13, Try.ntmps13
  go_wp2_with fail
  refine HN.out.mono ?_
  rintro e w1 ⟨rfl, d1⟩
  have D1 := Aside0.mk d1.below
  clear d1 HN
  go_wp2_with fail
  go_ret2
  exact ⟨rfl, D1.out⟩
set_option maxRecDepth 100000 in
set_option maxHeartbeats 2000000 in
theorem cpunew_why (w : World) (n : Nat) (h0 : 64 ≤ n) (h1 : n ≤ 65536) (h2 : n % 64 = 0) (ps : List S51) (A : Option Addr) (c : Nat) (hr : Kd.C k113 w A (ps.map pt).length (ps.map pt)) (hc : ps.length ≤ c) (hw : PW ps) (x : Int) (hx : whyL n ps = x) (hx0 : x ≠ 0) (Ai : Option Addr) (len cap : Nat) :
    Calls Try.prog 13 #[.int .i64 (n : Int), .slice A ps.length c, .slice Ai len cap] w fun e w' => e = .returned (.tuple #[.pointer none, .int .i64 x]) ∧ Below w.heap.size w w' := by
  have HN := Aside0.mk (new_yes w n h0 h1 h2)
  have HL := Aside0.mk (fun w' R BB BW BG (hb : Below w.heap.size w w') (hi : IsRam w' R BB BW BG n (n / 64) (List.replicate n 0) (List.replicate (n / 64) false) (List.replicate (n / 64) 0)) => lay_no hi h1 ps A c (Kd.C_below hr hb) hc hw x hx hx0)
  have hx1 : (x != 0) = true := by simpa using hx0
  clear hr hw hx
  go_enter Try.func13, Try.ntmps13
  go_wp2_with fail
  refine HN.out.mono ?_
  rintro e w1 ⟨rfl, ⟨BB, BW, BG, p1, p2, p3, ir⟩, b1⟩
  have IR := Aside0.mk ir
  have B1 := Aside0.mk b1
  generalize w.heap.size + 1 + 1 + 1 = R at IR ⊢
  clear ir b1 p1 p2 p3 HN
  go_wp2_with fail
  refine (HL.out w1 R BB BW BG B1.out IR.out).mono ?_
  rintro e w2 ⟨rfl, b2⟩
  have B2 := Aside0.mk (below_on B1.out b2)
  clear b2 B1 HL IR
  go_wp2_with fail
  go_ret2
  exact ⟨rfl, B2.out⟩
set_option maxRecDepth 100000 in
set_option maxHeartbeats 2000000 in
theorem cpunew_con (w : World) (n : Nat) (h0 : 64 ≤ n) (h1 : n ≤ 65536) (h2 : n % 64 = 0) (ps : List S51) (A : Option Addr) (c : Nat) (hr : Kd.C k113 w A (ps.map pt).length (ps.map pt)) (hc : ps.length ≤ c) (hw : PW ps) (hok : whyL n ps = 0) {Ai : Option Addr} {len cap : Nat} {f : Nat → Nat → Int} {r : Int} (hi : IsRows [.u64, .u8] w Ai len cap f) (h12 : Right12 len f r) (hr0 : r ≠ 0) :
    Calls Try.prog 13 #[.int .i64 (n : Int), .slice A ps.length c, .slice Ai len cap] w fun e w' => e = .returned (.tuple #[.pointer none, .int .i64 r]) ∧ Below w.heap.size w w' := by
  have HN := Aside0.mk (new_yes w n h0 h1 h2)
  have HL := Aside0.mk (fun w' R BB BW BG (hb : Below w.heap.size w w') (hBB : w.heap.size ≤ BB) (hi : IsRam w' R BB BW BG n (n / 64) (List.replicate n 0) (List.replicate (n / 64) false) (List.replicate (n / 64) 0)) => lay_ok hb hi h1 hBB ps A c hr hc hw hok)
  have HC := Aside0.mk (fun w' (hb : Below w.heap.size w w') => con_no w' (hi.below (by decide) hb) h12 hr0)
  have hx1 : (r != 0) = true := by simpa using hr0
  clear hr hw hok hi h12
  go_enter Try.func13, Try.ntmps13
  go_wp2_with fail
  refine HN.out.mono ?_
  rintro e w1 ⟨rfl, ⟨BB, BW, BG, p1, p2, p3, ir⟩, b1⟩
  have IR := Aside0.mk ir
  have B1 := Aside0.mk b1
  have HP := Aside0.mk (And.intro p1 (And.intro p2 p3))
  generalize w.heap.size + 1 + 1 + 1 = R at IR ⊢
  clear ir b1 p1 p2 p3 HN
  go_wp2_with fail
  refine (HL.out w1 R BB BW BG B1.out HP.out.1 IR.out).mono ?_
  rintro e w2 ⟨rfl, _, ol⟩
  have B2 := Aside0.mk (ol.below (fun k hk => by have := HP.out; rcases hk with rfl | rfl | rfl <;> omega) B1.out)
  clear ol B1 HL IR HP
  go_wp2_with fail
  refine (HC.out w2 B2.out).mono ?_
  rintro e w3 ⟨rfl, d3⟩
  have B3 := Aside0.mk (drawn_below' B2.out d3)
  clear d3 B2 HC
  go_wp2_with fail
  go_ret2
  exact ⟨rfl, B3.out⟩
/-- Why there is no machine. -/
theorem cpunew_no (w : World) (n : Int) (ps : List S51) (A : Option Addr) (c : Nat) (hr : Kd.C k113 w A (ps.map pt).length (ps.map pt)) (hc : ps.length ≤ c) (hw : PW ps) {Ai : Option Addr} {len cap : Nat} {f : Nat → Nat → Int} {r : Int} (hi : IsRows [.u64, .u8] w Ai len cap f) (h12 : Right12 len f r) (x : Int) (hx : newAns n ps r = x) (hx0 : x ≠ 0) :
    Calls Try.prog 13 #[.int .i64 n, .slice A ps.length c, .slice Ai len cap] w fun e w' => e = .returned (.tuple #[.pointer none, .int .i64 x]) ∧ Below w.heap.size w w' := by
  unfold newAns at hx
  cases hs : sizeOk n with
  | false =>
    rw [hs, if_neg (by decide)] at hx
    subst hx
    exact cpunew_size w n hs A ps.length c Ai len cap
  | true =>
    rw [hs, if_pos rfl] at hx
    have hs' := hs
    unfold sizeOk at hs'
    simp only [Bool.and_eq_true, decide_eq_true_eq, beq_iff_eq] at hs'
    obtain ⟨m, rfl⟩ : ∃ m : Nat, n = m := ⟨n.toNat, by omega⟩
    simp only [Int.toNat_natCast] at hx
    by_cases hy : whyL m ps = 0
    · rw [if_pos hy] at hx
      subst hx
      exact cpunew_con w m (by omega) (by omega) (by omega) ps A c hr hc hw hy hi h12 hx0
    · rw [if_neg hy] at hx
      subst hx
      exact cpunew_why w m (by omega) (by omega) (by omega) ps A c hr hc hw _ rfl hx0 Ai len cap
/-- A machine that may be. -/
theorem cpunew_yes (W w : World) (hW : Below W.heap.size W w) (n : Nat) (ps : List S51) (A : Option Addr) (c : Nat) (hr : Kd.C k113 w A (ps.map pt).length (ps.map pt)) (hc : ps.length ≤ c) (hw : PW ps) {Ai : Option Addr} {len cap : Nat} {f : Nat → Nat → Int} {r : Int} (hi : IsRows [.u64, .u8] w Ai len cap f) (h12 : Right12 len f r) (hx : newAns n ps r = 0) :
    Calls Try.prog 13 #[.int .i64 (n : Int), .slice A ps.length c, .slice Ai len cap] w fun e w' => ∃ p B R C T BB BW BG X ws gs, e = .returned (.tuple #[.pointer (some ⟨p, 0, none⟩), .int .i64 0]) ∧ MC W w' p 2147483648 rZ fN 0 0 nl B R C T BB BW BG n (n / 64) X (layL (List.replicate n 0) ps) ws gs (arrs len f) 0 [] false [] 0 18446744073709551615 false false 0 ∧ Below w.heap.size w w' := by
  unfold newAns at hx
  cases hs : sizeOk n with
  | false => rw [hs, if_neg (by decide)] at hx; cases hx
  | true =>
    rw [hs, if_pos rfl] at hx
    unfold sizeOk at hs
    simp only [Bool.and_eq_true, decide_eq_true_eq, beq_iff_eq] at hs
    simp only [Int.toNat_natCast] at hx
    by_cases hy : whyL n ps = 0
    · rw [if_pos hy] at hx
      subst hx
      obtain ⟨hl, ho⟩ : len ≤ 256 ∧ aord (arrs len f) len := by
        rcases h12 with ⟨_, h, h'⟩ | ⟨h, _⟩ | ⟨h, _⟩
        · exact ⟨h, h'⟩
        · cases h
        · cases h
      have := cnew_ok W w hW n (by omega) (by omega) (by omega) A ps.length c (layL (List.replicate n 0) ps) (fun w1 R BB BW BG hb g1 g2 g3 g4 hI => lay_ok hb hI (by omega) g2 ps A c hr hc hw hy) Ai cap (arrs len f) (rows_AR hi) (rows_nil hi) (rows_wa hi) (by rw [arrs_length]; exact hl) (by rw [arrs_length]; exact ho)
      rwa [arrs_length] at this
    · rw [if_neg hy] at hx
      exact absurd hx hy
end Go.Proofs.Ytfnbpmkbjbibkaa
