/- The queue's methods, one contract each for whatever queue; a row argument, as it is read. -/
import Derived.Test.YtonfblfbmnepoaaFifoAll
import Derived.Test.YtonfblfbmnepoaaDrawn
import Derived.Test.YtonfblfbmnepoaaOpens
namespace Go.Proofs.Ytonfblfbmnepoaa
open Go Go.RowKit Go.Proofs.YtonfblfbmnepoaaW.PrintWords Go.Proofs.Ytonfblfbmnepoaa.FifoPlain
set_option linter.unusedVariables false

/-- What a push leaves. -/
def qpush (q : List Int) (x : Int) : List Int := if q.length < 16 then q ++ [x] else q
theorem qpush_len (q : List Int) (x : Int) (h : q.length ≤ 16) : (qpush q x).length ≤ 16 := by
  unfold qpush; split
  · simp; omega
  · exact h
theorem push_calls (w : World) (B : Nat) (q : List Int) (x : Int) (h : IsF w B q) : Calls Try.prog 54 #[.pointer (some ⟨B, 0, none⟩), .int .u8 x] w fun e w' => e = .returned (.bool (decide (q.length < 16))) ∧ IsF w' B (qpush q x) ∧ Only B w w' := by
  unfold qpush
  have hl := h.length
  by_cases hq : q.length < 16
  · rw [if_pos hq, decide_eq_true hq]
    exact push_yes w B q x h hq
  · rw [if_neg hq, decide_eq_false hq]
    exact (push_no w B q x h (by omega)).mono fun e w' ⟨a, b⟩ => ⟨a, b ▸ h, b ▸ Only.refl B w⟩
theorem pop_calls (w : World) (B : Nat) (q : List Int) (h : IsF w B q) : Calls Try.prog 69 #[.pointer (some ⟨B, 0, none⟩)] w fun e w' => e = .returned (.tuple #[.int .u8 (q.headD 0), .bool (!q.isEmpty)]) ∧ IsF w' B q.tail ∧ Only B w w' := by
  cases q with
  | nil => exact (pop_no w B h).mono fun e w' ⟨a, b⟩ => ⟨a, b ▸ h, b ▸ Only.refl B w⟩
  | cons x q => exact pop_yes w B q x h
theorem flen_calls (w : World) (B : Nat) (q : List Int) (h : IsF w B q) : Calls Try.prog 55 #[.pointer (some ⟨B, 0, none⟩)] w fun e w' => e = .returned (.int .i64 (q.length : Int)) ∧ Drawn0 w w' :=
  (len_calls w B q h).mono fun e w' ⟨a, b⟩ => ⟨a, drawn_eq b⟩

/-- A row argument of bytes, as it is read. -/
theorem row_C {w : World} {A : Option Addr} {len cap : Nat} {zs : List Int} (h : IsRow .u8 w A len cap zs) : (Kd.int .u8).C w A (zs.take len).length (zs.take len) ∧ (zs.take len).length = len ∧ len ≤ cap := by
  rcases h with ⟨rfl, rfl, rfl, rfl⟩ | ⟨x, rfl, hl, hm, hz, hc, hw⟩
  · exact ⟨⟨rfl, by simp, fun h => absurd h (by simp)⟩, rfl, Nat.le_refl _⟩
  · have hlen : (zs.take len).length = len := by rw [List.length_take]; omega
    refine ⟨⟨rfl, by rw [hlen]; unfold maxLen at hm; omega, fun _ => ⟨x, rfl, fun j p hp => ⟨[.int .u8 p], rfl, rfl, fun i u hu => ?_⟩⟩⟩, hlen, hl⟩
    have hi : i = 0 ∧ u = .int .u8 p := by
      cases i with
      | zero => simp at hu; exact ⟨rfl, hu.symm⟩
      | succ i => simp at hu
    obtain ⟨rfl, rfl⟩ := hi
    have e1 : x.add (j * (Kd.int .u8).sz + 0) = x.add j := by
      show x.add (j * 1 + 0) = _
      rw [Nat.mul_one, Nat.add_zero]
    have hj : j < len := by have := (List.getElem?_eq_some_iff.1 hp).1; omega
    rw [e1, hc j (by omega)]
    rw [List.getElem?_take, if_pos hj] at hp
    rw [List.getD_eq_getElem?_getD, hp]
    rfl

end Go.Proofs.Ytonfblfbmnepoaa
