/- A feed's typing: plain facts. -/
import Derived.Test.YtdalboofhckobabPFeedTypesx
namespace Go.Proofs.Ytdalboofhckobab
open Go Go.RowKit Go.Proofs.YtdalboofhckobabW.PrintWords Go.Proofs.Ytdalboofhckobab.PFeedTypes
set_option linter.unusedVariables false
set_option linter.unusedSimpArgs false

def tl (s : ByteArray) (t g : Int) : Nat → Nat → List S40
  | _, 0 => []
  | i, d + 1 => ⟨t + (i : Int) * g, bt s i⟩ :: tl s t g (i + 1) d
theorem tl_length (s : ByteArray) (t g : Int) : ∀ (d i : Nat), (tl s t g i d).length = d
  | 0, _ => rfl
  | d + 1, i => by simp [tl, tl_length s t g d]
theorem mul_bound (i : Nat) (g : Int) (hi : i ≤ 256) (g0 : 0 ≤ g) (g1 : g ≤ 4294967296) : 0 ≤ (i : Int) * g ∧ (i : Int) * g ≤ 256 * 4294967296 :=
  ⟨Int.mul_nonneg (by omega) g0, Int.mul_le_mul (by omega) g1 g0 (by decide)⟩
theorem typed_val (t g : Int) (i : Nat) (hi : i ≤ 256) (t0 : 0 ≤ t) (t1 : t ≤ 4294967296) (g0 : 0 ≤ g) (g1 : g ≤ 4294967296) : IntKind.u64.wrap (t + IntKind.u64.wrap (wrap64 ((i : Int) * g))) = t + (i : Int) * g := by
  have h := mul_bound i g hi g0 g1
  generalize (i : Int) * g = p at *
  have e1 : wrap64 p = p := by unfold wrap64; omega
  rw [e1]
  have e2 : ∀ x : Int, 0 ≤ x → x < 18446744073709551616 → IntKind.u64.wrap x = x := by
    intro x h0 h1
    simp only [IntKind.wrap, IntKind.bits, IntKind.signed]
    simp; omega
  rw [e2 p (by omega) (by omega), e2 _ (by omega) (by omega)]
theorem typed_next (t g : Int) (i : Nat) (hi : i ≤ 256) (t0 : 0 ≤ t) (t1 : t ≤ 4294967296) (g0 : 0 ≤ g) (g1 : g ≤ 4294967296) : IntKind.u64.wrap (t + (i : Int) * g + IntKind.u64.wrap g) = t + ((i + 1 : Nat) : Int) * g := by
  have h := mul_bound i g hi g0 g1
  have e3 : ((i + 1 : Nat) : Int) * g = (i : Int) * g + g := by rw [Int.natCast_add, Int.add_mul]; simp
  rw [e3]
  generalize (i : Int) * g = p at *
  have e2 : ∀ x : Int, 0 ≤ x → x < 18446744073709551616 → IntKind.u64.wrap x = x := by
    intro x h0 h1
    simp only [IntKind.wrap, IntKind.bits, IntKind.signed]
    simp; omega
  rw [e2 g (by omega) (by omega), e2 _ (by omega) (by omega)]
  omega
theorem typed_l (s : ByteArray) (t g : Int) (hs : s.size ≤ 256) (t0 : 0 ≤ t) (t1 : t ≤ 4294967296) (g0 : 0 ≤ g) (g1 : g ≤ 4294967296) : ∀ (d k i : Nat) (out : List S40), i + d = s.size → d < k → out.length = i →
    feed_Typed.l0 k s t g out (s.size : Int) (i : Int) = some (out ++ tl s t g i d, 0)
  | 0, k + 1, i, out, hd, hk, ho => by
    rw [feed_Typed.l0, if_neg (by omega)]; simp [tl]
  | d + 1, k + 1, i, out, hd, hk, ho => by
    rw [feed_Typed.l0, if_pos (by omega), if_pos (by omega), if_pos (by omega), if_pos (by omega), typed_val t g i (by omega) t0 t1 g0 g1]
    have e : wrap64 ((i : Int) + 1) = ((i + 1 : Nat) : Int) := by unfold wrap64; omega
    rw [e, typed_l s t g hs t0 t1 g0 g1 d k (i + 1) _ (by omega) (by omega) (by simp [ho])]
    simp [tl]
theorem typed_r (s : ByteArray) (t g : Int) (hs : s.size ≤ 256) (t0 : 0 ≤ t) (t1 : t ≤ 4294967296) (g0 : 0 ≤ g) (g1 : g ≤ 4294967296) : ∀ (d k i : Nat) (out : List S40), i + d = s.size → d < k → out.length = i →
    mimesisref41_Typed.l0 k s (t + (i : Int) * g) g out (i : Int) = some (out ++ tl s t g i d)
  | 0, k + 1, i, out, hd, hk, ho => by
    rw [mimesisref41_Typed.l0, if_neg (by omega)]; simp [tl]
  | d + 1, k + 1, i, out, hd, hk, ho => by
    rw [mimesisref41_Typed.l0, if_pos (by omega), if_pos (by omega), if_pos (by omega), typed_next t g i (by omega) t0 t1 g0 g1]
    have e : wrap64 ((i : Int) + 1) = ((i + 1 : Nat) : Int) := by unfold wrap64; omega
    rw [e, typed_r s t g hs t0 t1 g0 g1 d k (i + 1) _ (by omega) (by omega) (by simp [ho])]
    simp [tl]
theorem typed_f (s : ByteArray) (t g : Int) (hs : s.size ≤ 256) (t0 : 0 ≤ t) (t1 : t ≤ 4294967296) (g0 : 0 ≤ g) (g1 : g ≤ 4294967296) : feed_Typed.f 300 s t g = some (tl s t g 0 s.size, 0) := by
  rw [feed_Typed.f, if_neg (by omega), if_neg (by omega), show decide (g > 4294967296) = false by simp; omega, feed_Typed.j0, if_neg (by simp), if_neg (by omega)]
  exact (typed_l s t g hs t0 t1 g0 g1 s.size 299 0 [] (by omega) (by omega) rfl).trans (by simp)
theorem typed_long (s : ByteArray) (t g : Int) (hs : ¬ s.size ≤ 256) (t1 : t ≤ 4294967296) (g0 : 0 ≤ g) (g1 : g ≤ 4294967296) : feed_Typed.f 300 s t g = some ([], 3) := by
  rw [feed_Typed.f, if_neg (by omega), if_neg (by omega), show decide (g > 4294967296) = false by simp; omega, feed_Typed.j0, if_neg (by simp), if_pos (by omega)]
theorem typed_range (s : ByteArray) (t g : Int) (h : ¬ (t ≤ 4294967296 ∧ 0 ≤ g ∧ g ≤ 4294967296)) : feed_Typed.f 300 s t g = some ([], 4) := by
  rw [feed_Typed.f]
  by_cases h1 : t > 4294967296
  · rw [if_pos h1, feed_Typed.j0, if_pos rfl]
  · rw [if_neg h1]
    by_cases h2 : g < 0
    · rw [if_pos h2, feed_Typed.j0, if_pos rfl]
    · rw [if_neg h2, show decide (g > 4294967296) = true by simp; omega, feed_Typed.j0, if_pos rfl]
theorem rtyped_f (s : ByteArray) (t g : Int) (hs : s.size ≤ 256) (t0 : 0 ≤ t) (t1 : t ≤ 4294967296) (g0 : 0 ≤ g) (g1 : g ≤ 4294967296) : mimesisref41_Typed.f 300 s t g = some (tl s t g 0 s.size) := by
  have h := typed_r s t g hs t0 t1 g0 g1 s.size 300 0 [] (by omega) (by omega) rfl
  rw [mimesisref41_Typed.f]
  simpa using h
theorem same_l (l : List S40) : ∀ (d k i : Nat), i + d = l.length → d < k → l.length < 1000000 → mimesisref41_Same.l0 k l l (i : Int) = some true
  | 0, k + 1, i, hd, hk, hl => by rw [mimesisref41_Same.l0, if_neg (by omega)]
  | d + 1, k + 1, i, hd, hk, hl => by
    rw [mimesisref41_Same.l0, if_pos (by omega), if_pos (by omega), if_pos (by omega), if_neg (by simp)]
    have e : wrap64 ((i : Int) + 1) = ((i + 1 : Nat) : Int) := by unfold wrap64; omega
    rw [e, same_l l d k (i + 1) (by omega) (by omega) hl]
theorem same_f (l : List S40) (hl : l.length < 1000) : mimesisref41_Same.f 1001 l l = some true := by
  rw [mimesisref41_Same.f, if_pos rfl]
  exact same_l l l.length 1001 0 (by omega) (by omega) (by omega)
end Go.Proofs.Ytdalboofhckobab
