/- The bus in plain numbers: what the document's words answer. (PK=PBusPlays) -/
import Derived.Test.YtdalboofhckobaaDoorBusE
import Derived.Test.YtdalboofhckobaaDoorFNum
import Derived.Test.YtdalboofhckobaaDoorQBusPlaysx
namespace Go.Proofs.YtdalboofhckobaaDoor
open Go Go.RowKit Go.Proofs.YtdalboofhckobaaDoorW.PrintWords Go.Proofs.YtdalboofhckobaaDoor.QBusPlays Go.Proofs.YtdalboofhckobaaDoor.FQBusPlays
set_option linter.unusedVariables false
set_option linter.unusedSimpArgs false

/-- Bytes. -/
def U8 (l : List Int) : Prop := ∀ x ∈ l, 0 ≤ x ∧ x < 256
theorem U8.zero (n : Nat) : U8 (List.replicate n 0) := fun x hx => by rw [List.eq_of_mem_replicate hx]; omega
theorem U8.put {l bs : List Int} (h : U8 l) (hb : U8 bs) (j k : Nat) : U8 (l.take j ++ bs ++ l.drop k) := fun x hx => by
  rcases List.mem_append.1 hx with hx | hx
  · rcases List.mem_append.1 hx with hx | hx
    · exact h x (List.mem_of_mem_take hx)
    · exact hb x hx
  · exact h x (List.mem_of_mem_drop hx)
theorem u8_ints {m : List Nat} (h : ∀ x ∈ m, x < 256) : U8 (ints m) := fun x hx => by
  obtain ⟨y, hy, rfl⟩ := List.mem_map.1 hx
  have := h y hy
  omega
theorem of_U8 {l : List Int} (h : U8 l) : ∃ m : List Nat, l = ints m ∧ ∀ x ∈ m, x < 256 := of_u8 l (fun x hx => by
  have := h x hx
  simp [Lit.wf, IntKind.min, IntKind.max, IntKind.bits, IntKind.signed]; omega)

theorem has_f (l : List Int) (a m : Int) (hl : l.length ≤ 65536) (a0 : 0 ≤ a) (a1 : a < 4294967296) : mimesisref10_Has.f l a m = some (rhas l.length a m) := by
  unfold mimesisref10_Has.f rhas
  have e1 : wrap64 (wrap64 a - 2147483648) = a - 2147483648 := by unfold wrap64; omega
  rw [e1]
  by_cases h1 : 1 ≤ m
  · rw [if_pos h1]
    by_cases h2 : a - 2147483648 ≥ 0
    · rw [if_pos h2]
      by_cases h3 : m ≤ (l.length : Int)
      · have e2 : wrap64 ((l.length : Int) - m) = l.length - m := by unfold wrap64; omega
        rw [if_pos h3, e2]
        have h4 : (2147483648 : Int) ≤ a := by omega
        simp [h1, h3, h4]
      · rw [if_neg h3]; simp [h3]
    · have h4 : ¬ (2147483648 : Int) ≤ a := by omega
      rw [if_neg h2]; simp [h4]
  · rw [if_neg h1]; simp [h1]
/-- What can be loaded, and stored. -/
theorem ask0 {n : Nat} {a m : Int} (h : rasked n a m = 0) : ∃ j k : Nat, m = (k : Int) ∧ (k = 1 ∨ k = 2 ∨ k = 4) ∧ 2147483648 ≤ a ∧ a - 2147483648 = (j : Int) ∧ j + k ≤ n ∧ rhas n a m = true := by
  unfold rasked at h
  by_cases hm : m = 1 ∨ m = 2 ∨ m = 4
  · rw [if_pos hm] at h
    by_cases h2 : a % m = 0
    · rw [if_pos h2] at h
      cases hr : rhas n a m with
      | false => rw [hr] at h; simp at h
      | true =>
        have hr' := hr
        unfold rhas at hr'
        simp at hr'
        exact ⟨(a - 2147483648).toNat, m.toNat, by omega, by omega, by omega, by omega, by omega, rfl⟩
    · rw [if_neg h2] at h; simp at h
  · rw [if_neg hm] at h; simp at h
theorem rhas_at {n m : Nat} {a : Int} (h : rhas n a m = true) : ∃ j : Nat, 2147483648 ≤ a ∧ a - 2147483648 = (j : Int) ∧ j + m ≤ n ∧ 0 < m := by
  unfold rhas at h
  simp at h
  exact ⟨(a - 2147483648).toNat, by omega, by omega, by omega, by omega⟩
theorem load_f (l : List Int) (a : Int) (j k : Nat) (hk : k = 1 ∨ k = 2 ∨ k = 4) (a0 : 2147483648 ≤ a) (a1 : a < 4294967296) (hj : a - 2147483648 = (j : Int)) (hjk : j + k ≤ l.length) (hl : l.length ≤ 65536) (hu : U8 l) :
    ∃ r, word_Number.f 60 ((l.drop j).take k) = some (r, 0) ∧ mimesisref10_Load.f 60 l a (k : Int) = some r ∧ 0 ≤ r ∧ r < 4294967296 := by
  obtain ⟨m, hm, hlt⟩ := of_U8 (l := (l.drop j).take k) (fun x hx => hu x (List.mem_of_mem_drop (List.mem_of_mem_take hx)))
  have hlen : m.length = k := by
    have := congrArg List.length hm
    simp [ints] at this
    omega
  have hb := num_lt m hlt
  have hp : 2 ^ (8 * m.length) ≤ 2 ^ 32 := two_pow_le 32 (by omega)
  refine ⟨((num m : Nat) : Int), ?_, ?_, by omega, by omega⟩
  · rw [hm]; exact number_yes m hlt (by omega) 60 (by omega)
  · unfold mimesisref10_Load.f
    have e1 : wrap64 (wrap64 a - 2147483648) = (j : Int) := by unfold wrap64; omega
    have e2 : wrap64 ((j : Int) + (k : Int)) = ((j + k : Nat) : Int) := by unfold wrap64; omega
    rw [e1, e2, if_pos (by omega), if_pos (by omega), if_pos (by omega)]
    have e3 : (l.take (((j + k : Nat) : Int)).toNat).drop ((j : Int)).toNat = ints m := by
      rw [← hm, Int.toNat_natCast, Int.toNat_natCast, List.drop_take]
      congr 1
      omega
    rw [e3, refnum m hlt (by omega) 60 (by omega)]
    rfl
theorem bytes_f (x : Int) (k : Nat) (hk : k = 1 ∨ k = 2 ∨ k = 4) (x0 : 0 ≤ x) (x1 : x < 4294967296) :
    ∃ bs, word_Bytes.f 60 x (k : Int) = some (bs, 0) ∧ mimesisref01_Bytes.f 60 x (k : Int) = some bs ∧ bs.length = k ∧ U8 bs := by
  obtain ⟨w, rfl⟩ : ∃ w : Nat, x = w := ⟨x.toNat, by omega⟩
  exact ⟨ints (bytesL w k), bytes_yes w k (by omega) (by omega) 60 (by omega), refbytes w k (by omega) (by omega) 60 (by omega), by rw [ints_length, bytesL_length], u8_ints (bytesL_lt w k)⟩
theorem put_f (l bs : List Int) (a : Int) (j : Nat) (a0 : 2147483648 ≤ a) (a1 : a < 4294967296) (hj : a - 2147483648 = (j : Int)) (hjk : j + bs.length ≤ l.length) (hl : l.length ≤ 65536) :
    mimesisref10_Put.f l a bs = some (l.take j ++ bs ++ l.drop (j + bs.length)) := by
  unfold mimesisref10_Put.f
  have e1 : wrap64 (wrap64 a - 2147483648) = (j : Int) := by unfold wrap64; omega
  have e2 : wrap64 ((j : Int) + (bs.length : Int)) = ((j + bs.length : Nat) : Int) := by unfold wrap64; omega
  simp only [e1, e2, Option.bind_some, Int.toNat_natCast, List.nil_append, List.length_nil]
  rw [if_pos (by omega), if_pos (by omega), if_pos (by rw [List.length_take]; omega), if_pos (by rw [List.length_take]; omega), if_pos (by omega), if_pos (by omega), if_pos (by rw [List.length_append, List.length_take, List.length_drop]; omega)]
theorem put_length (l bs : List Int) (j : Nat) (h : j + bs.length ≤ l.length) : (l.take j ++ bs ++ l.drop (j + bs.length)).length = l.length := by
  simp; omega
theorem rdev_dev (a : Int) (ho : a % 4 = 0) : 0 ≤ rdev a ↔ (a = 1048576 ∨ a = 268435456 ∨ a = 268435460 ∨ a = 33554432 ∨ a = 33570816 ∨ a = 33570820 ∨ a = 33603576 ∨ a = 33603580) := by
  unfold rdev
  constructor
  · intro h
    repeat' (first | omega | split at h)
  · intro h
    repeat' (first | omega | split)
theorem j0_1 (x0 : List Int) (x1 x2 : Int) (x16 : Bool) : mimesisref14_Class.j0 1 x0 x1 x2 x16 = if x16 = true then (some 0) else ((mimesisref10_Has.f x0 x1 x2).bind fun t107 => (if t107 = true then (some 1) else (if x2 = 4 then (if x1 = 1048576 then (some 2) else (if x1 = 268435456 then (some 2) else (if x1 = 268435460 then (some 2) else ((mimesisref13_Has.f x1).bind fun t108 => (if t108 = true then (some 2) else (some 0)))))) else (some 0)))) := rfl
theorem j0_f (l : List Int) (a m : Int) (hm : m = 1 ∨ m = 2 ∨ m = 4) (hl : l.length ≤ 65536) (a0 : 0 ≤ a) (a1 : a < 4294967296) : mimesisref14_Class.j0 1 l a m (a % m != 0) = some (bclass l.length a m) := by
  rw [j0_1]
  unfold bclass
  rw [if_pos hm]
  by_cases ho : a % m = 0
  · rw [if_neg (by simp [ho]), if_pos ho, has_f l a m hl a0 a1, Option.bind_some]
    cases hr : rhas l.length a m
    · simp only [Bool.false_eq_true, if_false]
      by_cases h4 : m = 4
      · subst h4
        simp only [if_true, true_and]
        have hd := rdev_dev a ho
        by_cases hv : 0 ≤ rdev a
        · rw [if_pos hv]
          have := hd.1 hv
          unfold mimesisref13_Has.f
          rcases this with h | h | h | h | h | h | h | h <;> subst h <;> rfl
        · rw [if_neg hv]
          have hn : ¬ _ := fun h => hv (hd.2 h)
          simp only [not_or] at hn
          obtain ⟨n1, n2, n3, n4, n5, n6, n7, n8⟩ := hn
          unfold mimesisref13_Has.f
          rw [if_neg n1, if_neg n2, if_neg n3, if_neg n4, if_neg n5, if_neg n6, if_neg n7, Option.bind_some, if_neg (by simpa using n8)]
      · rw [if_neg h4, if_neg (fun h => h4 h.1)]
    · rw [if_pos rfl, if_pos rfl]
  · rw [if_pos (by simpa using ho), if_neg ho]
theorem bclass_f (l : List Int) (a m : Int) (hl : l.length ≤ 65536) (a0 : 0 ≤ a) (a1 : a < 4294967296) : mimesisref14_Class.f 1 l a m = some (bclass l.length a m) := by
  have hw : mimesisref01_Width.f m = some (decide (m = 1 ∨ m = 2 ∨ m = 4)) := by
    unfold mimesisref01_Width.f
    by_cases h1 : m = 1
    · simp [h1]
    · by_cases h2 : m = 2
      · simp [h2]
      · rw [if_neg h1, if_neg h2]; simp [h1, h2]; by_cases h4 : m = 4 <;> simp [h4]
  unfold mimesisref14_Class.f
  rw [hw, Option.bind_some]
  by_cases hm : m = 1 ∨ m = 2 ∨ m = 4
  · have e : wrap64 a = a := by unfold wrap64; omega
    rw [if_pos (by simpa using hm), if_neg (by omega), e, Int.tmod_eq_emod_of_nonneg a0]
    exact j0_f l a m hm hl a0 a1
  · rw [if_neg (by simpa using hm)]
    rw [j0_1]
    unfold bclass
    rw [if_pos rfl, if_neg hm]
theorem brow_all' {w : World} {g : Nat} {l : List Int} (h : w.heap[g]? = some (.cells (brow l) 5)) (hl : l.length ≤ 65536) : (Kd.int .u8).C w (some ⟨g, 0, none⟩) l.length l := by
  have := brow_C h 0 l.length (by omega) hl
  simpa using this
theorem ref_has (a : Int) : mimesisref13_Has.f a = timer_Has.f a := by
  unfold mimesisref13_Has.f timer_Has.f
  split
  · rfl
  · split
    · rfl
    · split
      · rfl
      · split
        · rfl
        · split
          · rename_i h; rw [h]; rfl
          · rename_i h; rw [beq_eq_false_iff_ne.2 h]
theorem half_lo (n : Int) (h0 : 0 ≤ n) (h1 : n < 18446744073709551616) : Int.tmod n 4294967296 % 4294967296 = n % 4294967296 := by
  rw [Int.tmod_eq_emod_of_nonneg h0]; omega
theorem half_hi (n : Int) (h0 : 0 ≤ n) (h1 : n < 18446744073709551616) : IntKind.u64.wrap (Int.tdiv n 4294967296) % 4294967296 = n / 4294967296 := by
  rw [Int.tdiv_eq_ediv_of_nonneg h0, wrap_u64]; omega
theorem ref_read (o m a t : Int) (s : Bool) (m0 : 0 ≤ m) (m1 : m < 18446744073709551616) : mimesisref13_Read.f o m s a t = some (rval o m a t s) := by
  obtain ⟨n0, n1⟩ := tnow_lt t o
  have hn : mimesisref13_Now.f o m s t = some (tnow t o) := rfl
  unfold mimesisref13_Read.f rval
  rw [hn]
  split
  · rw [half_lo m m0 m1]
  · split
    · rw [half_hi m m0 m1]
    · split
      · rw [Option.bind_some, half_lo _ n0 n1]
      · split
        · rw [Option.bind_some, half_hi _ n0 n1]
        · split <;> rfl

/-- The timer behind a word written. -/
def wlo (n x : Int) : Int := n / 4294967296 * 4294967296 + x
def whi (n x : Int) : Int := x * 4294967296 + n % 4294967296
theorem wlo_lt {n x : Int} (h0 : 0 ≤ n) (h1 : n < 18446744073709551616) (x0 : 0 ≤ x) (x1 : x < 4294967296) : 0 ≤ wlo n x ∧ wlo n x < 18446744073709551616 := by unfold wlo; omega
theorem whi_lt {n x : Int} (h0 : 0 ≤ n) (h1 : n < 18446744073709551616) (x0 : 0 ≤ x) (x1 : x < 4294967296) : 0 ≤ whi n x ∧ whi n x < 18446744073709551616 := by unfold whi; omega
theorem put_lo_eq {n x : Int} (h0 : 0 ≤ n) (h1 : n < 18446744073709551616) (x0 : 0 ≤ x) (x1 : x < 4294967296) : wput false n x = wlo n x := by rw [wput_eq false n x h0 h1 x0 x1, if_neg (by simp)]; rfl
theorem put_hi_eq {n x : Int} (h0 : 0 ≤ n) (h1 : n < 18446744073709551616) (x0 : 0 ≤ x) (x1 : x < 4294967296) : wput true n x = whi n x := by rw [wput_eq true n x h0 h1 x0 x1, if_pos rfl]; rfl
theorem ref_lo {n x : Int} (h0 : 0 ≤ n) (h1 : n < 18446744073709551616) (x0 : 0 ≤ x) (x1 : x < 4294967296) : IntKind.u64.wrap ((IntKind.u64.wrap ((IntKind.u64.wrap (Int.tdiv n 4294967296)) * 4294967296)) + (IntKind.u64.wrap x)) = wlo n x := by
  rw [Int.tdiv_eq_ediv_of_nonneg h0]
  simp only [wrap_u64, wlo]
  omega
theorem ref_hi {n x : Int} (h0 : 0 ≤ n) (h1 : n < 18446744073709551616) (x0 : 0 ≤ x) (x1 : x < 4294967296) : IntKind.u64.wrap ((IntKind.u64.wrap ((IntKind.u64.wrap x) * 4294967296)) + (Int.tmod n 4294967296)) = whi n x := by
  rw [Int.tmod_eq_emod_of_nonneg h0]
  simp only [wrap_u64, whi]
  omega

theorem rasked_f (l : List Int) (a m : Int) (hl : l.length ≤ 65536) (a0 : 0 ≤ a) (a1 : a < 4294967296) : mimesisref14_Asked.f 1 l a m = some (basked l.length a m) := by
  unfold mimesisref14_Asked.f basked
  by_cases h : m = 1 ∨ m = 2 ∨ m = 4
  · have hw : mimesisref01_Width.f m = some true := (width_yes h).2
    have e1 : wrap64 a = a := by unfold wrap64; omega
    rw [hw, if_pos h, bclass_f l a m hl a0 a1, e1]
    simp only [Option.bind_some, if_true]
    rw [if_neg (by omega), Int.tmod_eq_emod_of_nonneg a0]
    by_cases h2 : a % m = 0
    · rw [if_pos h2, if_pos h2]
      by_cases h3 : bclass l.length a m = 0
      · rw [if_pos h3, if_pos h3]
      · rw [if_neg h3, if_neg h3]
    · rw [if_neg h2, if_neg h2]
  · rw [(width_no h).2, if_neg h]
    rfl
theorem ref_write (o m a x t : Int) (s : Bool) (ha : a ∈ regs) (m0 : 0 ≤ m) (m1 : m < 18446744073709551616) (x0 : 0 ≤ x) (x1 : x < 4294967296) : mimesisref13_Write.f o m s a x t = some (twO o m a x t, twM m a x, twS s a x) := by
  obtain ⟨n0, n1⟩ := tnow_lt t o
  have hn : mimesisref13_Now.f o m s t = some (tnow t o) := rfl
  unfold mimesisref13_Write.f
  rw [hn, Option.bind_some]
  simp only [regs, List.mem_cons, List.not_mem_nil, or_false] at ha
  rcases ha with rfl | rfl | rfl | rfl | rfl
  · rw [if_neg (by decide), if_neg (by decide), if_neg (by decide), if_neg (by decide), Int.tmod_eq_emod_of_nonneg x0]
    rfl
  · rw [if_pos rfl, ref_lo m0 m1 x0 x1, ← put_lo_eq m0 m1 x0 x1]
    rfl
  · rw [if_neg (by decide), if_pos rfl, ref_hi m0 m1 x0 x1, ← put_hi_eq m0 m1 x0 x1]
    rfl
  · rw [if_neg (by decide), if_neg (by decide), if_pos rfl, ref_lo n0 n1 x0 x1, ← put_lo_eq n0 n1 x0 x1]
    rfl
  · rw [if_neg (by decide), if_neg (by decide), if_neg (by decide), if_pos rfl, ref_hi n0 n1 x0 x1, ← put_hi_eq n0 n1 x0 x1]
    rfl
theorem ref_up (o m t : Int) (s : Bool) : mimesisref13_Up.f o m s t = some (tup t o m) := by
  unfold mimesisref13_Up.f mimesisref13_Now.f
  rfl
/-- What a timer's mark can be. -/
theorem twM_lt {m a x : Int} (m0 : 0 ≤ m) (m1 : m < 18446744073709551616) (x0 : 0 ≤ x) (x1 : x < 4294967296) : 0 ≤ twM m a x ∧ twM m a x < 18446744073709551616 := by
  unfold twM
  split
  · rw [put_lo_eq m0 m1 x0 x1]; exact wlo_lt m0 m1 x0 x1
  · split
    · rw [put_hi_eq m0 m1 x0 x1]; exact whi_lt m0 m1 x0 x1
    · exact ⟨m0, m1⟩
/-- What calls. -/
def bcallsv (s u r : Bool) : Int := (if s then 8 else 0) + (if u then 128 else 0) + (if r then 2048 else 0)
end Go.Proofs.YtdalboofhckobaaDoor
