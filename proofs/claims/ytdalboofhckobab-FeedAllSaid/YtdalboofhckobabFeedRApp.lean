/- The document's 'Merge', the region that puts one arrival in: each of its operations by what it leaves. -/
import Derived.Test.YtdalboofhckobabFeedRMerge
import Derived.Test.YtdalboofhckobabFeedIns
import Derived.Test.YtdalboofhckobabRegInvK
import Derived.BigQuiet
import Derived.Great.BuildSlice
namespace Go.Proofs.Ytdalboofhckobab
open Go Go.RowKit Go.Proofs.YtdalboofhckobabW.PrintWords
set_option linter.unusedVariables false
set_option linter.unusedSimpArgs false
theorem cells2_length (l : List (Int × Int)) : (cells2 l).length = l.length * 2 := by
  induction l with
  | nil => rfl
  | cons p l ih => simp only [cells2, List.flatMap_cons, List.length_append, List.length_cons, List.length_nil] at ih ⊢; omega
theorem cells2_get (l : List (Int × Int)) : ∀ (i : Nat) p, l[i]? = some p → (cells2 l)[i * 2]? = some (.int .u64 p.1) ∧ (cells2 l)[i * 2 + 1]? = some (.int .u8 p.2) := by
  induction l with
  | nil => intro i p h; simp at h
  | cons q l ih =>
    intro i p h
    cases i with
    | zero => simp only [List.getElem?_cons_zero, Option.some.injEq] at h; subst h; exact ⟨rfl, rfl⟩
    | succ i =>
      have := ih i p (by simpa using h)
      have e : (i + 1) * 2 = i * 2 + 2 := by omega
      rw [e]
      exact this
/-- An owned row reads as arrivals. -/
theorem AR.of_own {w : World} {base : Nat} {v : Value} {al : List (Int × Int)} (h : w.ownsRow base 40 2 v al.length (cells2 al)) : ∃ A c, v = .slice A al.length c ∧ al.length ≤ c ∧ AR w A al ∧ (A = none → al = [] ∧ c = 0) := by
  rcases h.2 with ⟨rfl, h0⟩ | ⟨g, cap, cur, rfl, hg, hh, hle, _⟩
  · have : al = [] := List.length_eq_zero_iff.1 h0
    subst this
    exact ⟨none, 0, rfl, Nat.le_refl _, fun i p hp => by simp at hp, fun _ => ⟨rfl, rfl⟩⟩
  · refine ⟨_, cap, rfl, hle, fun i p hp => ?_, fun h => by cases h⟩
    obtain ⟨e0, e1⟩ := cells2_get al i p hp
    exact ⟨_, rfl, h.cells rfl _ _ e0, h.cells rfl _ _ e1⟩

/-- The cells of a row that reads as arrivals. -/
theorem AR.news {w : World} {x : Addr} {bl : List (Int × Int)} (h : AR w (some x) bl) : ∀ j u, (cells2 bl)[j]? = some u → w.cell? (x.add j) = some u := by
  intro j u hu
  have hj : j < bl.length * 2 := by rw [← cells2_length]; exact (List.getElem?_eq_some_iff.1 hu).1
  obtain ⟨p, hp⟩ : ∃ p, bl[j / 2]? = some p := ⟨_, List.getElem?_eq_getElem (show j / 2 < bl.length by omega)⟩
  obtain ⟨y, hy, c0, c1⟩ := h (j / 2) p hp
  cases hy
  obtain ⟨e0, e1⟩ := cells2_get bl (j / 2) p hp
  rcases Nat.mod_two_eq_zero_or_one j with hm | hm
  · have e : j / 2 * 2 = j := by omega
    rw [e] at e0 c0
    rw [e0] at hu
    cases hu
    exact c0
  · have e : j / 2 * 2 + 1 = j := by omega
    rw [e] at e1 c1
    rw [e1] at hu
    cases hu
    exact c1
theorem cells2_cell {al : List (Int × Int)} {u : Value} (hu : u ∈ cells2 al) : u.oneCell' = true := by
  simp only [cells2, List.mem_flatMap] at hu
  obtain ⟨p, _, hp⟩ := hu
  simp only [List.mem_cons, List.not_mem_nil, or_false] at hp
  rcases hp with rfl | rfl <;> rfl
/-- Arrivals put behind a row of the call's own, be they none or some: one operation. -/
theorem append_op {w : World} {o : Oper} {ac : Act} {K : Act → World → Prop} {Q : Exit → Act → World → Prop} (s x : Operand)
    (ho : o.op = .call { callee := .builtin .append, args := #[s, x], argTypes := #[24, 24] })
    (base : Nat) (v : Value) (n : Nat) (al : List (Int × Int)) (hs : ac.eval s = v) (hown : w.ownsRow base 40 2 v n (cells2 al))
    (X : Option Addr) (m c : Nat) (bl : List (Int × Int)) (hx : ac.eval x = .slice X m c) (hbl : bl.length = m) (hX : AR w X bl) (hXn : X = none → m = 0 ∧ c = 0) (hnm : n + m ≤ 1000) (hbase : base ≤ w.heap.size)
    (h : ∀ v' w', w'.ownsRow base 40 2 v' (n + m) (cells2 (al ++ bl)) → w.grownBy w' v.ownBlock → K (ac.put o.dst v') w') :
    o.wp Try.prog ac w K Q := by
  obtain ⟨i0, hi, hz0, hz1, hz2⟩ := info_parts infoArr
  have hcat : cells2 (al ++ bl) = cells2 al ++ cells2 bl := by simp [cells2]
  cases X with
  | none =>
    obtain ⟨rfl, rfl⟩ := hXn rfl
    have : bl = [] := List.length_eq_zero_iff.1 hbl
    subst this
    have hrun := run_append_owned_none (P := Try.prog) (w := w) base 24 o.type 40 i0 2 Try.underlying24 hi v n _ hown
    unfold Oper.wp
    simp [execOp, ho, resolve, invoke, builtin, hs, hx, hrun, Result.andThen]
    exact h v w (by simpa using hown) ⟨rfl, rfl, rfl, Nat.le_refl _, fun _ _ _ => rfl⟩
  | some ad =>
    obtain ⟨v', w', hr, h2, h3, h4, h5⟩ := run_append_own_at (P := Try.prog) w base 24 o.type 40 i0 (.agg #[.int .u64 0, .int .u8 0]) 2 16 Try.underlying24 hi hz0 hz1 hz2 rfl (by decide) v n _ hown ad m c (cells2 bl) (by rw [cells2_length, hbl]) hX.news (fun u hu => cells2_cell hu) (by simp only [maxLen]; omega) (by omega) hbase
    unfold Oper.wp execOp
    simp only [ho, resolve, invoke, builtin, Sem.run_bind, Sem.run_pure, Result.andThen_ok, List.map_toArray, List.map_cons, List.map_nil, hs, hx, hr]
    exact h v' w' (by rw [hcat]; exact h2) h3
/-- Arrivals put behind a row of the call's own, be they none or some. -/
theorem append_any {w : World} {ops : Array Oper} {rest : List Oper} {o : Oper} {ac : Act} {Q : Exit → Act → World → Prop} (hgd : o.guard = none) (s x : Operand)
    (ho : o.op = .call { callee := .builtin .append, args := #[s, x], argTypes := #[24, 24] })
    (base : Nat) (v : Value) (n : Nat) (al : List (Int × Int)) (hs : ac.eval s = v) (hown : w.ownsRow base 40 2 v n (cells2 al))
    (X : Option Addr) (m c : Nat) (bl : List (Int × Int)) (hx : ac.eval x = .slice X m c) (hbl : bl.length = m) (hX : AR w X bl) (hXn : X = none → m = 0 ∧ c = 0) (hnm : n + m ≤ 1000) (hbase : base ≤ w.heap.size)
    (h : ∀ v' w', w'.ownsRow base 40 2 v' (n + m) (cells2 (al ++ bl)) → Below base w w' → wpList Try.prog ops Q rest (ac.put o.dst v') w') :
    wpList Try.prog ops Q (o :: rest) ac w := by
  refine wpList_plain hgd fun K hK => append_op s x ho base v n al hs hown X m c bl hx hbl hX hXn hnm hbase fun v' w' h1 h2 => hK _ _ (h v' w' h1 (Below.grown (Below.refl _ _) h2 hbase fun k hk => (hown.lt k hk).1))

/-- What the region's operations leave. -/
def post12 (base : Nat) (A : Option Addr) (c kk N : Nat) (out : List (Int × Int)) (t bb : Int) (B : Option Addr) (m cb k : Nat) (xb : Addr) (i : Nat) (v : Value) (w : World) : Prop :=
  match i with
  | 0 => ∃ g, v = .slice (some ⟨g, 0, none⟩) 0 0 ∧ base ≤ g ∧ w.heap[g]? = some (.cells #[] 40 (0, 0))
  | 1 => v = .slice A N c
  | 2 => v = .int .i64 kk
  | 3 => v = .slice A kk c
  | 4 => w.ownsRow base 40 2 v kk (cells2 (out.take kk))
  | 5 => v = .slice B m cb
  | 6 => v = .int .i64 k
  | 7 => v = .pointer (some (xb.add (k * 2)))
  | 8 => v = .agg #[.int .u64 t, .int .u8 bb]
  | 9 => ∃ g, v = .slice (some ⟨g, 0, none⟩) 1 1 ∧ base ≤ g ∧ w.heap[g]? = some (.cells #[.int .u64 t, .int .u8 bb] 40 (0, 0))
  | 10 => w.ownsRow base 40 2 v (kk + 1) (cells2 (out.take kk ++ [(t, bb)]))
  | 11 => v = .slice A N c
  | 12 => v = .int .i64 kk
  | 13 => ∃ A2 c2, v = .slice A2 (N - kk) c2 ∧ (A2 = none → N - kk = 0 ∧ c2 = 0) ∧ ∀ W : World, AR W A out → AR W A2 (out.drop kk)
  | 14 => w.ownsRow base 40 2 v (N + 1) (cells2 (out.take kk ++ [(t, bb)] ++ out.drop kk))
  | _ => True
def kills12 (i j : Nat) : Bool := (i == 4 && j == 0) || (i == 10 && (j == 4 || j == 9)) || (i == 14 && j == 10)
/-- What an operation leaves of the world. -/
def R12 (base : Nat) (i : Nat) (w w' : World) : Prop :=
  Below base w w' ∧ (i = 4 → ∀ (g : Nat) (cs : Array Value), cs ≠ #[] → w.heap[g]? = some (.cells cs 40 (0, 0)) → w'.heap[g]? = some (.cells cs 40 (0, 0))) ∧
  (i = 14 → ∀ g : Nat, w.heap[g]? = some (.cells #[] 40 (0, 0)) → w'.heap[g]? = some (.cells #[] 40 (0, 0))) ∧ (i ≠ 4 → i ≠ 10 → i ≠ 14 → Below w.heap.size w w')
theorem R12.quiet {base i : Nat} {w : World} (h4 : i ≠ 4) (h10 : i ≠ 10) (h14 : i ≠ 14) : R12 base i w w := ⟨Below.refl _ _, fun h => absurd h h4, fun h => absurd h h14, fun _ _ _ => Below.refl _ _⟩
theorem R12.new {base i : Nat} {w w' : World} (h4 : i ≠ 4) (h10 : i ≠ 10) (h14 : i ≠ 14) (hb : base ≤ w.heap.size) (h : Below w.heap.size w w') : R12 base i w w' := ⟨h.mono hb, fun h => absurd h h4, fun h => absurd h h14, fun _ _ _ => h⟩
theorem own_below {w w' : World} {base n : Nat} {v : Value} {xs : List Value} (h : w.ownsRow base 40 2 v n xs) (d : Below w.heap.size w w') : w'.ownsRow base 40 2 v n xs :=
  h.kept (row := none) ⟨d.os, d.tape, d.output, d.size, fun k hk _ => d.block k hk⟩ (by cases hv : v.ownBlock <;> simp)
theorem own_cur {w : World} {base n : Nat} {v : Value} {xs : List Value} (h : w.ownsRow base 40 2 v n xs) (hn : 0 < n) : ∃ g cs, v.ownBlock = some g ∧ cs ≠ #[] ∧ w.heap[g]? = some (.cells cs 40 (0, 0)) ∧ ∀ w' : World, w'.heap[g]? = some (.cells cs 40 (0, 0)) → w'.ownsRow base 40 2 v n xs := by
  obtain ⟨h1, ⟨_, h0⟩ | ⟨g, cap, cur, rfl, hb, hg, hle, hm, hs, ht⟩⟩ := h
  · omega
  · refine ⟨g, cur, rfl, ?_, hg, fun w' hw' => ⟨h1, .inr ⟨g, cap, cur, rfl, hb, hw', hle, hm, hs, ht⟩⟩⟩
    rintro rfl
    simp at hs
    omega
theorem add_snd (x : Addr) (j : Nat) : (⟨(x.add j).block, (x.add j).off + 1, none⟩ : Addr) = x.add (j + 1) := by
  unfold Addr.add
  rw [if_neg (show ¬ j + 1 = 0 by omega)]
  by_cases h : j = 0
  · subst h; simp
  · rw [if_neg h]; simp; omega
theorem AR.take {w : World} {A : Option Addr} {l : List (Int × Int)} (h : AR w A l) (n : Nat) : AR w A (l.take n) := fun i p hp => h i p (by
  rw [List.getElem?_take] at hp
  split at hp
  · exact hp
  · cases hp)
theorem add_add (x : Addr) (i j : Nat) : (x.add i).add j = x.add (i + j) := by
  unfold Addr.add
  by_cases hi : i = 0
  · subst hi; simp
  · by_cases hj : j = 0
    · subst hj; simp [hi]
    · rw [if_neg hj, if_neg hi, if_neg (show ¬ i + j = 0 by omega)]; simp; omega
theorem AR.drop {w : World} {x : Addr} {l : List (Int × Int)} (h : AR w (some x) l) (n : Nat) : AR w (some (x.add (n * 2))) (l.drop n) := fun i p hp => by
  rw [List.getElem?_drop] at hp
  obtain ⟨y, hy, c0, c1⟩ := h _ p hp
  cases hy
  refine ⟨_, rfl, ?_, ?_⟩
  · rw [add_add]; rw [show n * 2 + i * 2 = (n + i) * 2 by omega]; exact c0
  · rw [add_add]; rw [show n * 2 + (i * 2 + 1) = (n + i) * 2 + 1 by omega]; exact c1
theorem AR.one {w : World} {g : Nat} {t bb : Int} (h : w.heap[g]? = some (.cells #[.int .u64 t, .int .u8 bb] 40 (0, 0))) : AR w (some ⟨g, 0, none⟩) [(t, bb)] := fun i p hp => by
  cases i with
  | zero =>
    simp at hp; subst hp
    exact ⟨_, rfl, (blk_cell h 0).trans rfl, (blk_cell h 1).trans rfl⟩
  | succ i => simp at hp
theorem own_mono {w : World} {base b0 n : Nat} {v : Value} {xs : List Value} (h : w.ownsRow base 40 2 v n xs) (hb : b0 ≤ base) : w.ownsRow b0 40 2 v n xs := by
  obtain ⟨h1, h2 | ⟨g, cap, cur, rfl, hg, rest⟩⟩ := h
  · exact ⟨h1, .inl h2⟩
  · exact ⟨h1, .inr ⟨g, cap, cur, rfl, Nat.le_trans hb hg, rest⟩⟩
theorem ins_step {b a out : List (Int × Int)} {k kk N : Nat} {t bb : Int} (hp : b[k]? = some (t, bb)) (ho : (b.take k).foldl ins a = out) (hN : out.length = N) (hk : pos out t N = kk) :
    out.take kk ++ [(t, bb)] ++ out.drop kk = (b.take (k + 1)).foldl ins a := by
  rw [List.take_add_one, hp, Option.toList_some, List.foldl_append, ho]
  show _ = ins out (t, bb)
  unfold ins
  rw [hN, hk]
theorem r12_hR {ops : Array Oper} {base : Nat} {A : Option Addr} {c kk N : Nat} {out : List (Int × Int)} {t bb : Int} {B : Option Addr} {m cb k : Nat} {xb : Addr}
    (d0 : dead ops kills12 4 0 = true) (d1 : dead ops kills12 10 0 = true) (d2 : dead ops kills12 10 4 = true) (d3 : dead ops kills12 14 4 = true) (d4 : dead ops kills12 10 9 = true) (d5 : dead ops kills12 14 9 = true) (d6 : dead ops kills12 14 10 = true) (d7 : dead ops kills12 4 10 = true) (d8 : dead ops kills12 10 14 = true) :
    ∀ (i j : Nat) (v : Value) (w w' : World), i ≠ j → dead ops kills12 i j = false → post12 base A c kk N out t bb B m cb k xb j v w → R12 base i w w' → post12 base A c kk N out t bb B m cb k xb j v w' := by
  intro i j v w w' hne hd hp hr
  obtain ⟨r1, r2, r3, r4⟩ := hr
  match j, hp with
  | 0, hp =>
    obtain ⟨g, rfl, hg, hh⟩ := hp
    refine ⟨g, rfl, hg, ?_⟩
    by_cases h4 : i = 4
    · subst h4; rw [d0] at hd; cases hd
    by_cases h10 : i = 10
    · subst h10; rw [d1] at hd; cases hd
    by_cases h14 : i = 14
    · exact r3 h14 g hh
    exact ((r4 h4 h10 h14).block g (blk_lt hh)).trans hh
  | 1, hp => exact hp
  | 2, hp => exact hp
  | 3, hp => exact hp
  | 4, hp =>
    by_cases h10 : i = 10
    · subst h10; rw [d2] at hd; cases hd
    by_cases h14 : i = 14
    · subst h14; rw [d3] at hd; cases hd
    exact own_below hp (r4 hne h10 h14)
  | 5, hp => exact hp
  | 6, hp => exact hp
  | 7, hp => exact hp
  | 8, hp => exact hp
  | 9, hp =>
    obtain ⟨g, rfl, hg, hh⟩ := hp
    refine ⟨g, rfl, hg, ?_⟩
    by_cases h10 : i = 10
    · subst h10; rw [d4] at hd; cases hd
    by_cases h14 : i = 14
    · subst h14; rw [d5] at hd; cases hd
    by_cases h4 : i = 4
    · exact r2 h4 g _ (by simp) hh
    exact ((r4 h4 h10 h14).block g (blk_lt hh)).trans hh
  | 10, hp =>
    by_cases h14 : i = 14
    · subst h14; rw [d6] at hd; cases hd
    by_cases h4 : i = 4
    · subst h4; rw [d7] at hd; cases hd
    exact own_below hp (r4 h4 hne h14)
  | 11, hp => exact hp
  | 12, hp => exact hp
  | 13, hp => exact hp
  | 14, hp =>
    by_cases h10 : i = 10
    · subst h10; rw [d8] at hd; cases hd
    by_cases h4 : i = 4
    · obtain ⟨g, cs, _, h1, h2, h3⟩ := own_cur hp (by omega)
      exact h3 w' (r2 h4 g cs h1 h2)
    exact own_below hp (r4 h4 h10 hne)
  | _ + 15, hp => trivial
end Go.Proofs.Ytdalboofhckobab
