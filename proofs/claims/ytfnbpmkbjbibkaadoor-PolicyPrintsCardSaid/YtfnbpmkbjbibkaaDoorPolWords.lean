/- The document's words of a text, in plain lists of bytes. -/
import Derived.Test.YtfnbpmkbjbibkaaDoorPolPlain
import Derived.Test.YtfnbpmkbjbibkaaDoorQPolicyParsesx3
namespace Go.Proofs.YtfnbpmkbjbibkaaDoor.PolPlain
open Go Go.RowKit Go.Lib Go.Proofs.YtfnbpmkbjbibkaaDoor.QPolicyParses Go.Proofs.YtfnbpmkbjbibkaaDoorW.PrintWords
set_option linter.unusedVariables false
set_option linter.unusedSimpArgs false

theorem words_l0 (k : Nat) (x0 : ByteArray) (x3 : List ByteArray) (x4 : ByteArray) (x5 : Int) : mimesisref37_words.l0 (k + 1) x0 x3 x4 x5 = if x5 < (x0.size : Int) then (if 0 ≤ x5 then (if (bt x0 x5) = 32 then (mimesisref37_words.j1 k x0 x3 x4 x5 false) else (mimesisref37_words.j1 k x0 x3 x4 x5 ((bt x0 x5) != 10))) else (none)) else (if x4.toList = ([] : List UInt8) then (some x3) else (if x3.length < 8796093022208 then (some (x3 ++ [x4])) else (none))) := rfl
theorem words_j1 (k : Nat) (x0 : ByteArray) (x3 : List ByteArray) (x4 : ByteArray) (x5 : Int) (x22 : Bool) : mimesisref37_words.j1 (k + 1) x0 x3 x4 x5 x22 = if x22 = true then (if 0 ≤ x5 then (if x5 ≤ (wrap64 (x5 + 1)) then (if (wrap64 (x5 + 1)) ≤ (x0.size : Int) then (if x4.size + (x0.extract (x5 : Int).toNat ((wrap64 (x5 + 1)) : Int).toNat).size ≤ 9223372036854775807 then (mimesisref37_words.l0 k x0 x3 (x4 ++ (x0.extract (x5 : Int).toNat ((wrap64 (x5 + 1)) : Int).toNat)) (wrap64 (x5 + 1))) else (none)) else (none)) else (none)) else (none)) else (if x4.toList = ([] : List UInt8) then (mimesisref37_words.l0 k x0 x3 (⟨#[]⟩ : ByteArray) (wrap64 (x5 + 1))) else (if x3.length < 8796093022208 then (mimesisref37_words.l0 k x0 (x3 ++ [x4]) (⟨#[]⟩ : ByteArray) (wrap64 (x5 + 1))) else (none))) := rfl

theorem bt_get (s : ByteArray) (i : Nat) (h : i < s.data.toList.length) : bt s (i : Int) = ((s.data.toList[i]).toNat : Int) := by
  have hs : i < s.size := by rw [size_eq]; exact h
  unfold bt
  rw [Int.toNat_natCast, dif_pos hs]
  rfl
theorem byte_eq (b : UInt8) (n : Nat) (hn : n < 256) : ((b.toNat : Int) = (n : Int)) ↔ b = UInt8.ofNat n := by
  constructor
  · intro h
    have h' : b.toNat = n := by omega
    rw [← h', UInt8.ofNat_toNat]
  · rintro rfl
    rw [UInt8.toNat_ofNat', Nat.mod_eq_of_lt hn]
theorem byte32 (b : UInt8) : ((b.toNat : Int) = 32) ↔ b = 32 := byte_eq b 32 (by decide)
theorem byte10 (b : UInt8) : ((b.toNat : Int) = 10) ↔ b = 10 := byte_eq b 10 (by decide)

theorem words_go (s : ByteArray) (hs : s.size ≤ 100000) (K : Nat) : ∀ (d i : Nat) (ws : List ByteArray) (cur : ByteArray), s.size - i = d → i ≤ s.size → cur.size ≤ i → ws.length ≤ i → (∀ w ∈ ws, w.toList ≠ []) →
    ∃ ws', mimesisref37_words.l0 (2 * d + 1 + K) s ws cur (i : Int) = some ws' ∧ ws'.map (·.toList) = ws.map (·.toList) ++ pw (s.toList.drop i) cur.toList ∧ ws'.length ≤ s.size + 1
  | 0, i, ws, cur, hd, hi, hc, hw, hne => by
    have hi' : i = s.size := by omega
    rw [show 2 * 0 + 1 + K = K + 1 by omega, words_l0, if_neg (by omega)]
    have hdr : s.toList.drop i = [] := by
      rw [ByteArray.toList_eq]
      exact List.drop_of_length_le (by rw [← size_eq]; omega)
    rw [hdr, pw]
    by_cases hcur : cur.toList = []
    · rw [if_pos hcur, if_pos hcur]
      exact ⟨ws, rfl, by simp, by omega⟩
    · rw [if_neg hcur, if_neg hcur, if_pos (by omega)]
      exact ⟨ws ++ [cur], rfl, by simp, by simp; omega⟩
  | d + 1, i, ws, cur, hd, hi, hc, hw, hne => by
    have hlt : i < s.data.toList.length := by rw [← size_eq]; omega
    have hdr : s.toList.drop i = s.data.toList[i] :: s.toList.drop (i + 1) := by
      rw [ByteArray.toList_eq]; exact List.drop_eq_getElem_cons hlt
    have hw1 : wrap64 ((i : Int) + 1) = ((i + 1 : Nat) : Int) := by unfold wrap64; omega
    rw [show 2 * (d + 1) + 1 + K = (2 * d + 1 + K) + 1 + 1 by omega, words_l0, if_pos (by omega), if_pos (by omega), bt_get s i hlt, hdr]
    generalize hb : s.data.toList[i] = b
    have step : ∀ q : Bool, (q = true ↔ ¬ (b = 32 ∨ b = 10)) → ∃ ws', mimesisref37_words.j1 (2 * d + 1 + K + 1) s ws cur (i : Int) q = some ws' ∧ ws'.map (·.toList) = ws.map (·.toList) ++ pw (b :: s.toList.drop (i + 1)) cur.toList ∧ ws'.length ≤ s.size + 1 := by
      intro q hq
      rw [words_j1, hw1, pw]
      by_cases hsep : b = 32 ∨ b = 10
      · have hqf : ¬ q = true := fun h => (hq.1 h) hsep
        rw [if_neg hqf, if_pos hsep]
        have he : (⟨#[]⟩ : ByteArray).toList = [] := by rw [ByteArray.toList_eq]
        by_cases hcur : cur.toList = []
        · rw [if_pos hcur, if_pos hcur]
          have := words_go s hs K d (i + 1) ws ⟨#[]⟩ (by omega) (by omega) (Nat.zero_le _) (by omega) hne
          rw [he] at this
          exact this
        · rw [if_neg hcur, if_neg hcur, if_pos (by omega)]
          obtain ⟨ws', h1, h2, h3⟩ := words_go s hs K d (i + 1) (ws ++ [cur]) ⟨#[]⟩ (by omega) (by omega) (Nat.zero_le _) (by simp; omega) (by
            intro w hw'
            rcases List.mem_append.1 hw' with h | h
            · exact hne w h
            · simp at h; rw [h]; exact hcur)
          rw [he] at h2
          exact ⟨ws', h1, by rw [h2]; simp, h3⟩
      · have hqt : q = true := hq.2 hsep
        have hex : (s.extract i (i + 1)).toList = [b] := by
          rw [extract_toList, show i + 1 - i = 1 by omega, List.drop_eq_getElem_cons hlt, hb]; rfl
        have hsz : (s.extract i (i + 1)).size = 1 := by rw [ByteArray.size_extract]; omega
        rw [if_pos hqt, if_pos (by omega), if_pos (by omega), if_pos (by omega), Int.toNat_natCast, Int.toNat_natCast, hsz, if_pos (by omega), if_neg hsep]
        obtain ⟨ws', h1, h2, h3⟩ := words_go s hs K d (i + 1) ws (cur ++ s.extract i (i + 1)) (by omega) (by omega) (by rw [ByteArray.size_append, hsz]; omega) (by omega) hne
        have hcl : (cur ++ s.extract i (i + 1)).toList = cur.toList ++ [b] := by
          rw [ByteArray.toList_eq, ByteArray.data_append, Array.toList_append, ← ByteArray.toList_eq, ← ByteArray.toList_eq, hex]
        rw [hcl] at h2
        exact ⟨ws', h1, h2, h3⟩
    by_cases h32 : b = 32
    · rw [if_pos ((byte32 b).2 h32)]
      exact step false (by simp [h32])
    · rw [if_neg (fun h => h32 ((byte32 b).1 h))]
      refine step _ ?_
      have := byte10 b
      by_cases h10 : b = 10
      · simp [this.2 h10, h10]
      · have h10' : ¬ ((b.toNat : Int) = 10) := fun h => h10 (this.1 h)
        simp [h10', h32, h10]

theorem words_ref (s : ByteArray) (hs : s.size ≤ 100000) (K : Nat) : ∃ ws, mimesisref37_words.f (2 * s.size + 1 + K) s = some ws ∧ ws.map (·.toList) = pw s.toList [] ∧ ws.length ≤ s.size + 1 := by
  obtain ⟨ws, h1, h2, h3⟩ := words_go s hs K s.size 0 [] ⟨#[]⟩ (by omega) (by omega) (Nat.zero_le _) (by simp) (by simp)
  have he : (⟨#[]⟩ : ByteArray).toList = [] := by rw [ByteArray.toList_eq]
  rw [he] at h2
  exact ⟨ws, h1, by simpa using h2, h3⟩

/-- The program's words: of its pieces those that are not empty. -/
theorem words_prog (s : ByteArray) (s2 : ByteArray) (h2 : s2 = ⟨(replaceAll s.data.toList (⟨#[10]⟩ : ByteArray).data.toList (⟨#[32]⟩ : ByteArray).data.toList).toArray⟩) :
    ((splitB ⟨#[32]⟩ 0 (countB s2 ⟨#[32]⟩) s2).map (·.data.toList)).filter (fun w => !w.isEmpty) = pw s.toList [] := by
  have hr : s2.data.toList = rep s.data.toList := by
    rw [h2]
    show (replaceAll s.data.toList [10] [32]) = _
    unfold replaceAll replace replaceNum
    rw [if_neg (by decide), if_pos (.inl (by decide))]
    exact replace_rep _ _ (Nat.le_refl _)
  rw [splitB_data, ByteArray.toList_eq]
  show (splitK [32] 0 (count s2.data.toList [32]) s2.data.toList).filter _ = _
  rw [split_pw _ _ (Nat.le_refl _) (by rw [hr]; exact rep_no10 _), hr, pw_rep]
end Go.Proofs.YtfnbpmkbjbibkaaDoor.PolPlain
