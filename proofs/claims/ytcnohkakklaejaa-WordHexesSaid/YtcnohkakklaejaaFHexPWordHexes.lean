/- What the program's and the reference's Hex and Unhex answer, in plain lists (over the functions printed for PWordHexes). -/
import Derived.Test.YtcnohkakklaejaaFPowerPWordHexes
import Derived.Test.YtcnohkakklaejaaFBitsPWordHexes
namespace Go.Proofs.Ytcnohkakklaejaa.FPWordHexes
open Go Go.RowKit Go.Proofs.Ytcnohkakklaejaa.PWordHexes Go.Proofs.Ytcnohkakklaejaa.Bit Go.Proofs.YtcnohkakklaejaaW.PrintWords Go.Proofs.YtcnohkakklaejaaW.PrintMore
set_option linter.unusedVariables false
set_option linter.unusedSimpArgs false

/-- A text as its bytes. -/
def codes (s : ByteArray) : List Nat := s.data.toList.map UInt8.toNat
theorem codes_length (s : ByteArray) : (codes s).length = s.size := by simp [codes]
theorem codes_lt (s : ByteArray) : ∀ x ∈ codes s, x < 256 := by
  intro x hx
  simp only [codes, List.mem_map] at hx
  obtain ⟨c, _, rfl⟩ := hx
  exact c.toNat_lt
theorem bt_codes (s : ByteArray) (i : Nat) (h : i < (codes s).length) : bt s (i : Int) = (((codes s)[i] : Nat) : Int) := by
  have hs : i < s.size := by rwa [codes_length] at h
  rw [← bt_at s i (by simpa using hs)]
  simp [codes]
  rfl

/-- Bytes as a text. -/
def text (l : List Nat) : ByteArray := ⟨(l.map UInt8.ofNat).toArray⟩
theorem codes_text (l : List Nat) (h : ∀ x ∈ l, x < 256) : codes (text l) = l := by
  simp only [codes, text, List.map_map]
  apply List.ext_getElem
  · simp
  · intro i h1 h2
    have := h _ (List.getElem_mem h2)
    simp
    omega
theorem text_size (l : List Nat) : (text l).size = l.length := by simp [text, ByteArray.size]
theorem text_append (a b : List Nat) : text a ++ text b = text (a ++ b) := by
  apply ByteArray.ext
  simp [text]
theorem text_nil : (⟨#[]⟩ : ByteArray) = text [] := rfl
theorem strOf_text (l : List Nat) : strOfNums (l.map fun (x : Nat) => (x : Int)) = text l := by
  simp [strOfNums, text, Function.comp_def]

/-- A digit's letter. -/
def dig (d : Nat) : Nat := if d < 10 then 48 + d else 87 + d
theorem bt_dig : ∀ d : Nat, d < 16 → bt (⟨#[48, 49, 50, 51, 52, 53, 54, 55, 56, 57, 97, 98, 99, 100, 101, 102]⟩ : ByteArray) (d : Int) = (dig d : Int) := by decide
theorem ext_dig : ∀ d : Nat, d < 16 → (⟨#[48, 49, 50, 51, 52, 53, 54, 55, 56, 57, 97, 98, 99, 100, 101, 102]⟩ : ByteArray).extract d (d + 1) = text [dig d] := by
  intro d hd
  have : ∀ d : Fin 16, ((⟨#[48, 49, 50, 51, 52, 53, 54, 55, 56, 57, 97, 98, 99, 100, 101, 102]⟩ : ByteArray).extract d.1 (d.1 + 1)).data.toList = (text [dig d.1]).data.toList := by decide +kernel
  have h := this ⟨d, hd⟩
  exact ByteArray.ext (Array.ext' h)

/-- A word's first n digits, the highest one first. -/
def hexL (w n : Nat) : List Nat := (List.range n).map fun i => dig (w / 2 ^ (28 - 4 * i) % 16)
theorem hexL_length (w n : Nat) : (hexL w n).length = n := by simp [hexL]
theorem hexL_succ (w n : Nat) : hexL w (n + 1) = hexL w n ++ [dig (w / 2 ^ (28 - 4 * n) % 16)] := by simp [hexL, List.range_succ]
theorem dig_lt (d : Nat) (h : d < 16) : dig d < 256 := by unfold dig; split <;> omega
theorem hexL_lt (w n : Nat) : ∀ x ∈ hexL w n, x < 256 := by
  intro x hx
  simp only [hexL, List.mem_map] at hx
  obtain ⟨i, _, rfl⟩ := hx
  exact dig_lt _ (Nat.mod_lt _ (by decide))

theorem hex_l0 (w : Nat) (hw : w < 4294967296) (d : Nat) : ∀ (k i : Nat), i + d = 8 → d < k →
    word_Hex.l0 k (w : Int) ((hexL w i).map fun (x : Nat) => (x : Int)) (i : Int) = some (text (hexL w 8)) := by
  induction d with
  | zero =>
    intro k i hi hk
    obtain ⟨k, rfl⟩ : ∃ m, k = m + 1 := ⟨k - 1, by omega⟩
    simp only [word_Hex.l0]
    rw [if_neg (by omega), strOf_text, show i = 8 by omega]
  | succ d ih =>
    intro k i hi hk
    obtain ⟨k, rfl⟩ : ∃ m, k = m + 1 := ⟨k - 1, by omega⟩
    simp only [word_Hex.l0]
    have h8 : wrap64 (28 - wrap64 (4 * (i : Int))) = ((28 - 4 * i : Nat) : Int) := by unfold wrap64; omega
    have hd := Nat.div_le_self w (2 ^ (28 - 4 * i))
    have ha := and_low (w / 2 ^ (28 - 4 * i)) 4 (by decide) (by omega)
    rw [show ((2 ^ 4 - 1 : Nat) : Int) = 15 from rfl, show (2 ^ 4 : Nat) = 16 from rfl] at ha
    have hm : w / 2 ^ (28 - 4 * i) % 16 < 16 := Nat.mod_lt _ (by decide)
    rw [if_pos (by omega), h8, u64_in _ (by omega), if_pos (by omega), shr_u32 _ _ (by omega), ha, if_pos (by omega), if_pos (by omega), if_pos (by rw [List.length_map, hexL_length]; omega), bt_dig _ hm]
    rw [show wrap64 ((i : Int) + 1) = ((i + 1 : Nat) : Int) by unfold wrap64; omega]
    have := ih k (i + 1) (by omega) (by omega)
    rw [hexL_succ, List.map_append] at this
    exact this
theorem hex (w k : Nat) (hw : w < 4294967296) (hk : 8 < k) : word_Hex.f k (w : Int) = some (text (hexL w 8)) := by
  have h := hex_l0 w hw 8 k 0 (by omega) hk
  rw [show hexL w 0 = [] by simp [hexL], List.map_nil, Int.ofNat_zero] at h
  unfold word_Hex.f
  exact h

theorem refhex_l0 (w : Nat) (hw : w < 4294967296) (d : Nat) : ∀ (k : Nat), d ≤ 8 → d + 40 < k →
    mimesisref01_Hex.l0 k (w : Int) (text (hexL w (8 - d))) ((d : Int) - 1) = some (text (hexL w 8)) := by
  induction d with
  | zero =>
    intro k hd hk
    obtain ⟨k, rfl⟩ : ∃ m, k = m + 1 := ⟨k - 1, by omega⟩
    simp only [mimesisref01_Hex.l0, Nat.sub_zero]
    rw [if_neg (by omega)]
  | succ d ih =>
    intro k hd hk
    obtain ⟨k, rfl⟩ : ∃ m, k = m + 1 := ⟨k - 1, by omega⟩
    simp only [mimesisref01_Hex.l0]
    have h8 : wrap64 (4 * (((d + 1 : Nat) : Int) - 1)) = ((4 * d : Nat) : Int) := by unfold wrap64; omega
    have hb := bits_ref w (4 * d) 4 k hw (by omega) (by omega) (by omega) (by omega)
    rw [show ((4 : Nat) : Int) = 4 from rfl, show (2 ^ 4 : Nat) = 16 from rfl] at hb
    rw [if_pos (by omega), h8, hb, Option.bind_some]
    have hm : w / 2 ^ (4 * d) % 16 < 16 := Nat.mod_lt _ (by decide)
    have hs : 28 - 4 * (8 - (d + 1)) = 4 * d := by omega
    have hsucc := hexL_succ w (8 - (d + 1))
    rw [hs, show 8 - (d + 1) + 1 = 8 - d by omega] at hsucc
    generalize w / 2 ^ (4 * d) % 16 = e at *
    have e1 : wrap64 (e : Int) = (e : Int) := by unfold wrap64; omega
    have e2 : wrap64 ((e : Int) + 1) = ((e + 1 : Nat) : Int) := by unfold wrap64; omega
    rw [e1, e2, if_pos (by omega), if_pos (by omega), if_pos (by omega), Int.toNat_natCast, Int.toNat_natCast, ext_dig e hm, text_append, ← hsucc, if_pos (by rw [text_size, text_size, hexL_length, List.length_singleton]; omega)]
    rw [show wrap64 (((d + 1 : Nat) : Int) - 1 - 1) = (d : Int) - 1 by unfold wrap64; omega]
    exact ih k (by omega) (by omega)
theorem refhex (w k : Nat) (hw : w < 4294967296) (hk : 60 < k) : mimesisref01_Hex.f k (w : Int) = some (text (hexL w 8)) := by
  have h := refhex_l0 w hw 8 k (by omega) (by omega)
  rw [show hexL w (8 - 8) = [] from rfl, ← text_nil, show ((8 : Nat) : Int) - 1 = 7 from rfl] at h
  unfold mimesisref01_Hex.f
  exact h

/-- A letter's number. -/
def val (c : Nat) : Option Nat := if 48 ≤ c ∧ c ≤ 57 then some (c - 48) else if 97 ≤ c ∧ c ≤ 102 then some (c - 87) else if 65 ≤ c ∧ c ≤ 70 then some (c - 55) else none
theorem val_lt {c v : Nat} (h : val c = some v) : v < 16 := by
  unfold val at h
  split at h
  · cases h; omega
  · split at h
    · cases h; omega
    · split at h
      · cases h; omega
      · cases h
theorem val_dig : ∀ d : Nat, d < 16 → val (dig d) = some d := by decide

theorem digit (c k : Nat) (hc : c < 256) (hk : 2 < k) : word_digit.f k (c : Int) = some (((val c).getD 16 : Nat) : Int) := by
  obtain ⟨k, rfl⟩ : ∃ m, k = m + 2 := ⟨k - 2, by omega⟩
  have h1 : word_digit.j1 (k + 1) (c : Int) (decide ((c : Int) ≤ 102)) = some ((if c ≤ 102 then (c + 256 - 97) % 256 + 10 else if 65 ≤ c ∧ c ≤ 70 then c - 55 else 16 : Nat) : Int) := by
    simp only [word_digit.j1, decide_eq_true_eq]
    by_cases b1 : c ≤ 102
    · rw [if_pos (show (c : Int) ≤ 102 by omega), if_pos b1, Option.some.injEq]; omega
    · rw [if_neg (show ¬ (c : Int) ≤ 102 by omega), if_neg b1]
      by_cases b2 : 65 ≤ c ∧ c ≤ 70
      · rw [if_pos (show (c : Int) ≥ 65 by omega), if_pos (show (c : Int) ≤ 70 by omega), if_pos b2, Option.some.injEq]; omega
      · rw [if_neg b2]
        split
        · rw [if_neg (by omega)]; rfl
        · rfl
  have h2 : word_digit.j1 (k + 1) (c : Int) false = some ((if 65 ≤ c ∧ c ≤ 70 then c - 55 else 16 : Nat) : Int) := by
    simp only [word_digit.j1, Bool.false_eq_true, if_false]
    by_cases b2 : 65 ≤ c ∧ c ≤ 70
    · rw [if_pos (show (c : Int) ≥ 65 by omega), if_pos (show (c : Int) ≤ 70 by omega), if_pos b2, Option.some.injEq]; omega
    · rw [if_neg b2]
      split
      · rw [if_neg (by omega)]; rfl
      · rfl
  have h3 : ∀ b : Bool, word_digit.j0 (k + 2) (c : Int) b = if b = true then some (((c : Int) - 48) % 256) else if (c : Int) ≥ 97 then word_digit.j1 (k + 1) (c : Int) (decide ((c : Int) ≤ 102)) else word_digit.j1 (k + 1) (c : Int) false := fun b => by
    simp only [word_digit.j0]
  unfold word_digit.f
  rw [h3, h3, h1, h2]
  unfold val
  by_cases a1 : 48 ≤ c ∧ c ≤ 57
  · rw [if_pos (by omega), decide_eq_true (by omega), if_pos rfl, if_pos a1, Option.some.injEq]
    simp; omega
  · have hb : (if (c : Int) ≥ 48 then (if decide ((c : Int) ≤ 57) = true then some (((c : Int) - 48) % 256) else if (c : Int) ≥ 97 then some ((if c ≤ 102 then (c + 256 - 97) % 256 + 10 else if 65 ≤ c ∧ c ≤ 70 then c - 55 else 16 : Nat) : Int) else some ((if 65 ≤ c ∧ c ≤ 70 then c - 55 else 16 : Nat) : Int))
        else (if false = true then some (((c : Int) - 48) % 256) else if (c : Int) ≥ 97 then some ((if c ≤ 102 then (c + 256 - 97) % 256 + 10 else if 65 ≤ c ∧ c ≤ 70 then c - 55 else 16 : Nat) : Int) else some ((if 65 ≤ c ∧ c ≤ 70 then c - 55 else 16 : Nat) : Int)))
        = if (c : Int) ≥ 97 then some ((if c ≤ 102 then (c + 256 - 97) % 256 + 10 else if 65 ≤ c ∧ c ≤ 70 then c - 55 else 16 : Nat) : Int) else some ((if 65 ≤ c ∧ c ≤ 70 then c - 55 else 16 : Nat) : Int) := by
      split
      · rw [decide_eq_false (by omega)]; simp
      · simp
    rw [hb, if_neg a1]
    by_cases a2 : 97 ≤ c ∧ c ≤ 102
    · rw [if_pos (by omega), if_pos a2, if_pos (by omega), Option.some.injEq]; simp; omega
    · rw [if_neg a2]
      by_cases a3 : 97 ≤ c
      · rw [if_pos (by omega), if_neg (by omega), if_neg (by omega), if_neg (by omega)]; rfl
      · rw [if_neg (by omega)]
        by_cases a4 : 65 ≤ c ∧ c ≤ 70
        · rw [if_pos a4, if_pos a4]; rfl
        · rw [if_neg a4, if_neg a4]; rfl

theorem refdigit (c k : Nat) (hc : c < 256) (hk : 2 < k) : mimesisref01_Digit.f k (c : Int) = some ((val c).elim (-1) fun v => (v : Int)) := by
  obtain ⟨k, rfl⟩ : ∃ m, k = m + 2 := ⟨k - 2, by omega⟩
  have e0 : wrap64 (c : Int) = (c : Int) := by unfold wrap64; omega
  have h3 : ∀ b : Bool, mimesisref01_Digit.j0 (k + 2) (c : Int) b = if b = true then some (wrap64 ((c : Int) - 48)) else if (c : Int) ≥ 97 then mimesisref01_Digit.j1 (k + 1) (c : Int) (decide ((c : Int) ≤ 102)) else mimesisref01_Digit.j1 (k + 1) (c : Int) false := fun b => by
    simp only [mimesisref01_Digit.j0]
  have h4 : ∀ b : Bool, mimesisref01_Digit.j1 (k + 1) (c : Int) b = if b = true then some (wrap64 ((c : Int) - 87)) else if (c : Int) ≥ 65 then if (c : Int) ≤ 70 then some (wrap64 ((c : Int) - 55)) else some (-1) else some (-1) := fun b => by
    simp only [mimesisref01_Digit.j1]
  unfold mimesisref01_Digit.f
  rw [e0, h3, h3, h4, h4]
  unfold val
  by_cases a1 : 48 ≤ c ∧ c ≤ 57
  · rw [if_pos (by omega), decide_eq_true (by omega), if_pos rfl, if_pos a1, Option.some.injEq]
    simp only [Option.elim]; unfold wrap64; omega
  · have hb : ∀ (p : Prop) [Decidable p] (x y : Option Int), (if (c : Int) ≥ 48 then (if decide ((c : Int) ≤ 57) = true then x else y) else (if false = true then x else y)) = y := by
      intro p _ x y
      split
      · rw [decide_eq_false (by omega)]; simp
      · simp
    rw [hb True, if_neg a1]
    by_cases a2 : 97 ≤ c ∧ c ≤ 102
    · rw [if_pos (by omega), if_pos a2, decide_eq_true (by omega), if_pos rfl, Option.some.injEq]; simp only [Option.elim]; unfold wrap64; omega
    · rw [if_neg a2]
      by_cases a3 : 97 ≤ c
      · rw [if_pos (by omega), decide_eq_false (by omega), if_neg (by simp), if_pos (by omega), if_neg (by omega), if_neg (by omega)]; rfl
      · rw [if_neg (by omega), if_neg (by simp)]
        by_cases a4 : 65 ≤ c ∧ c ≤ 70
        · rw [if_pos (by omega), if_pos (by omega), if_pos a4, Option.some.injEq]; simp only [Option.elim]; unfold wrap64; omega
        · rw [if_neg a4]
          split
          · rw [if_neg (by omega)]; rfl
          · rfl

/-- The number of letters, begun at a number. -/
def unhexL : List Nat → Nat → Option Nat
  | [], n => some n
  | c :: r, n => (val c).bind fun v => unhexL r (n * 16 + v)

theorem unhex_l0 (s : ByteArray) (h8 : s.size ≤ 8) (d : Nat) : ∀ (k i n : Nat), i + d = s.size → d + 5 < k → n < 2 ^ (4 * i) →
    word_Unhex.l0 k s (n : Int) (s.size : Int) (i : Int) = some ((unhexL ((codes s).drop i) n).elim (0, 1) fun r => ((r : Int), 0)) ∧
    mimesisref01_Unhex.l0 k s (n : Int) (i : Int) = some ((unhexL ((codes s).drop i) n).elim (0, false) fun r => ((r : Int), true)) := by
  induction d with
  | zero =>
    intro k i n hi hk hn
    obtain ⟨k, rfl⟩ : ∃ m, k = m + 1 := ⟨k - 1, by omega⟩
    simp only [word_Unhex.l0, mimesisref01_Unhex.l0]
    have hp : 2 ^ (4 * i) ≤ 2 ^ 32 := two_pow_le 32 (by omega)
    rw [if_neg (by omega), if_neg (by omega), List.drop_of_length_le (by rw [codes_length]; omega)]
    simp only [unhexL, Option.elim, Option.some.injEq, Prod.mk.injEq, and_true, true_and]
    omega
  | succ d ih =>
    intro k i n hi hk hn
    obtain ⟨k, rfl⟩ : ∃ m, k = m + 1 := ⟨k - 1, by omega⟩
    simp only [word_Unhex.l0, mimesisref01_Unhex.l0]
    have hp : 2 ^ (4 * (i + 1)) ≤ 2 ^ 32 := two_pow_le 32 (by omega)
    have hp2 : 2 ^ (4 * (i + 1)) = 2 ^ (4 * i) * 16 := by rw [Nat.mul_add, Nat.pow_add]
    have hlen : i < (codes s).length := by rw [codes_length]; omega
    rw [if_pos (by omega), if_pos (by omega), if_pos (by omega), if_pos (by omega), if_pos (by omega), bt_codes s i hlen]
    have hc := codes_lt s _ (List.getElem_mem hlen)
    rw [digit _ k hc (by omega), refdigit _ k hc (by omega), List.drop_eq_getElem_cons hlen]; simp only [Option.bind_some, unhexL]
    rw [show wrap64 ((i : Int) + 1) = ((i + 1 : Nat) : Int) by unfold wrap64; omega]
    cases hv : val (codes s)[i] with
    | none => simp
    | some v =>
      have hv16 := val_lt hv
      have e0 : ((some v).elim (-1) fun (v : Nat) => (v : Int)) = (v : Int) := rfl
      simp only [Option.getD_some, Option.bind_some]
      rw [e0]
      have e1 : ((n : Int) * 16) % 4294967296 = ((n * 16 : Nat) : Int) := by omega
      have e2 : Go.bits .or .u32 ((n * 16 : Nat) : Int) (v : Int) = ((n * 16 + v : Nat) : Int) := by
        have := or_field (n * 16) v 4 0 (by simp) (by omega)
        rw [u32_or_nat _ _ (by omega) (by omega)]
        simp only [Nat.pow_zero, Nat.mul_one] at this
        rw [this]
      rw [if_neg (by omega), e1, e2, if_neg (by omega)]
      rw [show (n : Int) * 16 = ((n * 16 : Nat) : Int) by push_cast; rfl, u64_in _ (by omega), u64_in v (by omega), ← Int.natCast_add, u64_in _ (by omega)]
      exact ih k (i + 1) (n * 16 + v) (by omega) (by omega) (by omega)

/-- The number of a text, if it has one to eight digits. -/
def unhexT (s : ByteArray) : Option Nat := if 1 ≤ s.size ∧ s.size ≤ 8 then unhexL (codes s) 0 else none
theorem unhex (s : ByteArray) (k : Nat) (hk : 20 < k) :
    word_Unhex.f k s = some ((unhexT s).elim (0, 1) fun r => ((r : Int), 0)) ∧ mimesisref01_Unhex.f k s = some ((unhexT s).elim (0, false) fun r => ((r : Int), true)) := by
  obtain ⟨k, rfl⟩ : ∃ m, k = m + 1 := ⟨k - 1, by omega⟩
  unfold word_Unhex.f mimesisref01_Unhex.f unhexT
  by_cases h1 : s.size < 1
  · rw [if_pos (show (s.size : Int) < 1 by omega), if_pos (show (s.size : Int) < 1 by omega), if_neg (show ¬ (1 ≤ s.size ∧ s.size ≤ 8) by omega)]
    simp [word_Unhex.j0, mimesisref01_Unhex.j0]
  · rw [if_neg (show ¬ (s.size : Int) < 1 by omega), if_neg (show ¬ (s.size : Int) < 1 by omega)]
    by_cases h2 : s.size > 8
    · rw [decide_eq_true (show (s.size : Int) > 8 by omega), if_neg (show ¬ (1 ≤ s.size ∧ s.size ≤ 8) by omega)]
      simp [word_Unhex.j0, mimesisref01_Unhex.j0]
    · rw [decide_eq_false (show ¬ (s.size : Int) > 8 by omega), if_pos (show 1 ≤ s.size ∧ s.size ≤ 8 by omega)]
      have := unhex_l0 s (by omega) s.size k 0 0 (by omega) (by omega) (by simp)
      simpa [word_Unhex.j0, mimesisref01_Unhex.j0] using this

theorem unhex_hexL (w : Nat) (hw : w < 4294967296) (d : Nat) : ∀ i, i + d = 8 → unhexL ((hexL w 8).drop i) (w / 2 ^ (32 - 4 * i)) = some w := by
  induction d with
  | zero =>
    intro i hi
    rw [List.drop_of_length_le (by rw [hexL_length]; omega), show 32 - 4 * i = 0 by omega]
    simp [unhexL]
  | succ d ih =>
    intro i hi
    have hl : i < (hexL w 8).length := by rw [hexL_length]; omega
    rw [List.drop_eq_getElem_cons hl]
    have hg : (hexL w 8)[i] = dig (w / 2 ^ (28 - 4 * i) % 16) := by simp [hexL]
    simp only [unhexL]
    rw [hg, val_dig _ (Nat.mod_lt _ (by decide))]; simp only [Option.bind_some]
    have e : w / 2 ^ (32 - 4 * i) * 16 + w / 2 ^ (28 - 4 * i) % 16 = w / 2 ^ (32 - 4 * (i + 1)) := by
      rw [show 32 - 4 * i = 28 - 4 * i + 4 by omega, Nat.pow_add, ← Nat.div_div_eq_div_mul, show 32 - 4 * (i + 1) = 28 - 4 * i by omega]
      omega
    rw [e]
    exact ih (i + 1) (by omega)
theorem unhex_hex (w : Nat) (hw : w < 4294967296) : unhexT (text (hexL w 8)) = some w := by
  unfold unhexT
  rw [text_size, hexL_length, if_pos (by omega), codes_text _ (hexL_lt w 8)]
  have := unhex_hexL w hw 8 0 rfl
  rwa [List.drop_zero, show w / 2 ^ (32 - 4 * 0) = 0 from Nat.div_eq_of_lt hw] at this

end Go.Proofs.Ytcnohkakklaejaa.FPWordHexes
