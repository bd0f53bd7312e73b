/- The words' choices, by the program and by the document; rows of choices. -/
import Derived.Test.YtfnbpmkbjbibkaaDoorPolChoice
import Derived.Test.YtfnbpmkbjbibkaaDoorPolAwake
namespace Go.Proofs.YtfnbpmkbjbibkaaDoor.PolPlain
open Go Go.RowKit Go.Lib Go.Proofs.YtfnbpmkbjbibkaaDoor Go.Proofs.YtfnbpmkbjbibkaaDoor.QPolicyParses Go.Proofs.YtfnbpmkbjbibkaaDoorW.PrintWords
set_option linter.unusedVariables false
set_option linter.unusedSimpArgs false

def mkS (p : Int × Int) : S66 := ⟨p.1, p.2⟩
theorem parse_l0 (k : Nat) (x4 : List ByteArray) (x5 : List S66) (x6 : Int) : mimesisref37_Parse.l0 (k + 1) x4 x5 x6 = if x6 < (x4.length : Int) then (if 0 ≤ x6 then ((mimesisref37_choice.f k (rdOf ByteArray.empty x4 x6)).bind fun bt137 => (if bt137.2.2 = true then (if x5.length < 8796093022208 then (mimesisref37_Parse.l0 k x4 (x5 ++ [(⟨bt137.1, bt137.2.1⟩ : S66)]) (wrap64 (x6 + 1))) else (none)) else (some (([] : List (S66)), 1)))) else (none)) else (if (x5.length : Int) > 512 then (some (([] : List (S66)), 3)) else (some (x5, 0))) := rfl

/-- What both hand back. -/
def endOf : Option (List (Int × Int)) → List S66 × Int
  | none => ([], 1)
  | some l => if 512 < l.length then ([], 3) else (l.map mkS, 0)

theorem go_same (ws : List ByteArray) (hws : ∀ x ∈ ws, x.size < 2 ^ 40 ∧ x.toList ≠ []) (hl : ws.length < 2 ^ 40) (M : Nat) : ∀ (d i : Nat) (acc : List (Int × Int)), ws.length - i = d → i ≤ ws.length → acc.length ≤ i →
    mimesisref37_Parse.l0 (d + 41 + M) ws (acc.map mkS) (i : Int) = some (endOf (pgo C (ws.drop i) acc))
  | 0, i, acc, hd, hi, ha => by
    rw [show 0 + 41 + M = (40 + M) + 1 by omega, parse_l0, if_neg (by omega), List.drop_of_length_le (by omega), pgo, List.length_map, endOf]
    by_cases h : 512 < acc.length
    · rw [if_pos (by omega), if_pos h]
    · rw [if_neg (by omega), if_neg h]
  | d + 1, i, acc, hd, hi, ha => by
    have hlt : i < ws.length := by omega
    have hrd : rdOf ByteArray.empty ws (i : Int) = ws[i] := by
      unfold rdOf
      rw [Int.toNat_natCast, List.getD_eq_getElem?_getD, List.getElem?_eq_getElem hlt]; rfl
    obtain ⟨hs, hne⟩ := hws ws[i] (List.getElem_mem hlt)
    obtain ⟨p, q, ok, h1, h2, h3⟩ := choice_ref ws[i] hs (d + 1 + M)
    have hw1 : wrap64 ((i : Int) + 1) = ((i + 1 : Nat) : Int) := by unfold wrap64; omega
    have hem : ¬ (ws[i].toList.isEmpty = true) := by simpa using hne
    rw [show d + 1 + 41 + M = (d + 1 + M + 40) + 1 by omega, parse_l0, if_pos (by omega), if_pos (by omega), hrd, h1, Option.bind_some, List.drop_eq_getElem_cons hlt, pgo, if_neg hem]
    by_cases hok : ok = true
    · obtain ⟨rfl, rfl⟩ := h3 hok
      have hm : acc.map mkS ++ [(⟨(C ws[i]).1, (C ws[i]).2.1⟩ : S66)] = (acc ++ [((C ws[i]).1, (C ws[i]).2.1)]).map mkS := by simp [mkS]
      have hrec := go_same ws hws hl M d (i + 1) (acc ++ [((C ws[i]).1, (C ws[i]).2.1)]) (by omega) (by omega) (by simp; omega)
      simp only []
      rw [if_pos hok, if_pos (by rw [List.length_map]; omega), hm, hw1, if_pos (h2 ▸ hok), show d + 1 + M + 40 = d + 41 + M by omega]
      exact hrec
    · simp only []
      rw [if_neg hok, if_neg (fun h => hok (h2.trans h))]
      rfl

theorem pgo_filter : ∀ (xs : List ByteArray) (acc : List (Int × Int)), pgo C xs acc = pgo C (xs.filter fun s => !s.toList.isEmpty) acc
  | [], acc => rfl
  | x :: xs, acc => by
    rw [List.filter_cons]
    cases he : x.toList.isEmpty with
    | true =>
      rw [pgo, if_pos he, pgo_filter xs acc]; rfl
    | false =>
      have e : ∀ l, pgo C (x :: l) acc = if (C x).2.2 = true then pgo C l (acc ++ [((C x).1, (C x).2.1)]) else none := fun l => by rw [pgo, he]; rfl
      rw [if_pos (by rfl), e, e]
      split
      · exact pgo_filter xs _
      · rfl

theorem toList_inj {s t : ByteArray} (h : s.toList = t.toList) : s = t := by
  rw [ByteArray.toList_eq, ByteArray.toList_eq] at h
  cases s; cases t
  simp only [ByteArray.mk.injEq]
  exact Array.ext' h
theorem map_inj : ∀ {xs ys : List ByteArray}, xs.map (·.toList) = ys.map (·.toList) → xs = ys
  | [], [], _ => rfl
  | [], _ :: _, h => by simp at h
  | _ :: _, [], h => by simp at h
  | x :: xs, y :: ys, h => by
    simp only [List.map_cons, List.cons.injEq] at h
    rw [toList_inj h.1, map_inj h.2]
theorem pw_len : ∀ (L cur : List UInt8), ∀ w ∈ pw L cur, w.length ≤ cur.length + L.length
  | [], cur, w, h => by
    rw [pw] at h
    split at h
    · cases h
    · simp at h; subst h; simp
  | b :: r, cur, w, h => by
    rw [pw] at h
    split at h
    · split at h
      · have := pw_len r [] w h; simp only [List.length_nil, List.length_cons] at this ⊢; omega
      · rcases List.mem_cons.1 h with rfl | h
        · simp
        · have := pw_len r [] w h; simp only [List.length_nil, List.length_cons] at this ⊢; omega
    · have := pw_len r (cur ++ [b]) w h; simp only [List.length_append, List.length_nil, List.length_cons] at this ⊢; omega

/-- The pieces: those that are not empty are the document's words, and both come to the same. -/
theorem parse_same (s s2 : ByteArray) (hs : s.size ≤ 70000) (h2 : s2 = ⟨(replaceAll s.data.toList (⟨#[10]⟩ : ByteArray).data.toList (⟨#[32]⟩ : ByteArray).data.toList).toArray⟩) :
    (∀ x ∈ splitB ⟨#[32]⟩ 0 (countB s2 ⟨#[32]⟩) s2, x.size ≤ 100000) ∧ mimesisref37_Parse.f (2 * s.size + 42) s = some (endOf (pgo C (splitB ⟨#[32]⟩ 0 (countB s2 ⟨#[32]⟩) s2) [])) := by
  have hp := words_prog s s2 h2
  obtain ⟨ws, hw, hwm, hwl⟩ := words_ref s (by omega) 41
  generalize splitB ⟨#[32]⟩ 0 (countB s2 ⟨#[32]⟩) s2 = xs at hp ⊢
  have hf : (xs.filter fun s => !s.toList.isEmpty).map (·.toList) = pw s.toList [] := by
    rw [← hp]
    clear hp
    induction xs with
    | nil => rfl
    | cons x xs ih =>
      simp only [List.filter_cons, List.map_cons, ByteArray.toList_eq] at ih ⊢
      split
      · rw [List.map_cons, ih]
      · exact ih
  have he : ws = xs.filter fun s => !s.toList.isEmpty := map_inj (hwm.trans hf.symm)
  have hsl : s.toList.length = s.size := by rw [ByteArray.toList_eq, size_eq]
  have hx : ∀ x ∈ xs, x.size ≤ 100000 := by
    intro x hx
    have hxl : x.toList.length = x.size := by rw [ByteArray.toList_eq, size_eq]
    cases hem : x.toList.isEmpty with
    | true => have := List.isEmpty_iff.1 hem; rw [this] at hxl; simp at hxl; omega
    | false =>
      have hm : x.toList ∈ pw s.toList [] := by
        rw [← hf]
        exact List.mem_map.2 ⟨x, List.mem_filter.2 ⟨hx, by rw [hem]; rfl⟩, rfl⟩
      have := pw_len _ _ _ hm
      simp only [List.length_nil] at this
      omega
  refine ⟨hx, ?_⟩
  unfold mimesisref37_Parse.f
  rw [show 2 * s.size + 42 = 2 * s.size + 1 + 41 by omega, hw, Option.bind_some, pgo_filter, ← he]
  have h := go_same ws (fun x h => by
    rw [he] at h
    obtain ⟨h1, h2⟩ := List.mem_filter.1 h
    exact ⟨by have := hx x h1; omega, by intro h; rw [h] at h2; simp at h2⟩) (by omega) (2 * s.size + 1 - ws.length) ws.length 0 [] (by omega) (by omega) (by simp)
  rw [show ws.length + 41 + (2 * s.size + 1 - ws.length) = 2 * s.size + 1 + 41 by omega] at h
  exact h

theorem ccells_get : ∀ (l : List (Int × Int)) (j : Nat) (p : Int × Int), l[j]? = some p → (ccells l)[j * 2]? = some (.int .i64 p.1) ∧ (ccells l)[j * 2 + 1]? = some (.int .i64 p.2)
  | [], j, p, h => by simp at h
  | q :: l, 0, p, h => by
    simp at h; subst h
    exact ⟨rfl, rfl⟩
  | q :: l, j + 1, p, h => by
    have := ccells_get l j p (by simpa using h)
    have he : ccells (q :: l) = .int .i64 q.1 :: .int .i64 q.2 :: ccells l := rfl
    rw [he, show (j + 1) * 2 = j * 2 + 2 by omega]
    exact this

theorem own_C {w : World} {base : Nat} {v : Value} {l : List (Int × Int)} (h : w.ownsRow base 66 2 v l.length (ccells l)) (hl : l.length ≤ 512) : ∃ A c, v = .slice A (l.map mkS).length c ∧ (l.map mkS).length ≤ c ∧ Kd.C k66 w A (l.map mkS).length (l.map mkS) := by
  have hlm : (l.map mkS).length = l.length := List.length_map _
  rcases h.2 with ⟨rfl, h0⟩ | ⟨g, cap, cur, rfl, hb, hg, hc, hm, hsz, htk⟩
  · exact ⟨none, 0, by rw [hlm, h0], by omega, rfl, by omega, fun h => absurd h (by omega)⟩
  · refine ⟨some ⟨g, 0, none⟩, cap, by rw [hlm], by omega, rfl, by omega, fun _ => ⟨_, rfl, fun j p hp => ?_⟩⟩
    rw [List.getElem?_map] at hp
    obtain ⟨q, hq, rfl⟩ := Option.map_eq_some_iff.1 hp
    have hj : j < l.length := (List.getElem?_eq_some_iff.1 hq).1
    obtain ⟨c0, c1⟩ := ccells_get l j q hq
    refine ⟨_, rfl, k66_mk w _, fun i u hu => ?_⟩
    have hi : i = 0 ∨ i = 1 := by
      have := (List.getElem?_eq_some_iff.1 hu).1
      simp at this; omega
    have hat : ∀ t, t < l.length * 2 → w.cell? ⟨g, t, none⟩ = (ccells l)[t]? := fun t ht => World.ownsRow.cellAt h t ht
    rcases hi with rfl | rfl
    · simp at hu; subst hu
      have := (hat (j * 2) (by omega)).trans c0
      rw [show k66.sz = 2 from rfl]
      simp only [Addr.add, Nat.zero_add, Nat.add_zero]
      by_cases hz : j * 2 = 0
      · rw [if_pos hz]; rw [hz] at this; exact this
      · rw [if_neg hz]; exact this
    · simp at hu; subst hu
      have := (hat (j * 2 + 1) (by omega)).trans c1
      rw [show k66.sz = 2 from rfl]
      simp only [Addr.add, Nat.zero_add, Nat.add_zero]
      exact this

theorem same_l0 (k : Nat) (x0 x1 : List S66) (x5 : Int) : mimesislaw37_same.l0 (k + 1) x0 x1 x5 = if x5 < (x0.length : Int) then (if 0 ≤ x5 then (if x5 < (x1.length : Int) then (if (!(((rd_T66 x0 x5).f0) == ((rd_T66 x1 x5).f0)) || (!(((rd_T66 x0 x5).f1) == ((rd_T66 x1 x5).f1)))) = true then (some false) else (mimesislaw37_same.l0 k x0 x1 (wrap64 (x5 + 1)))) else (none)) else (none)) else (some true) := rfl
theorem same_go (l : List S66) (hl : l.length ≤ 600) : ∀ (d i : Nat), i + d = l.length → mimesislaw37_same.l0 (d + 1) l l (i : Int) = some true
  | 0, i, h => by rw [same_l0, if_neg (by omega)]
  | d + 1, i, h => by
    have hw1 : wrap64 ((i : Int) + 1) = ((i + 1 : Nat) : Int) := by unfold wrap64; omega
    rw [same_l0, if_pos (by omega), if_pos (by omega), if_pos (by omega), if_neg (by simp), hw1]
    exact same_go l hl d (i + 1) (by omega)
theorem same_self (l : List S66) (hl : l.length ≤ 600) : mimesislaw37_same.f (l.length + 1) l l = some true := by
  unfold mimesislaw37_same.f
  rw [if_pos rfl]
  exact same_go l hl l.length 0 (by omega)
end Go.Proofs.YtfnbpmkbjbibkaaDoor.PolPlain
