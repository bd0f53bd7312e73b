/- Plain facts on a table of 128 places with linear probing: what finding, adding and forgetting do. -/
namespace Go.Proofs.Ytbphciahojjnpaa.HotPlain
set_option linter.unusedVariables false

abbrev Tab := List (Int × Int)

def pcA (l : Tab) (i : Nat) : Int := (l.getD i (0, 0)).1
def nA (l : Tab) (i : Nat) : Int := (l.getD i (0, 0)).2

/-- Steps from place a on to place b, going round. -/
def dist (a b : Nat) : Nat := (b + 128 - a) % 128

/-- The first place of an address. -/
def home (pc : Int) : Nat := (((pc * 2654435761) % 4294967296) / 33554432).toNat
theorem home_lt (pc : Int) : home pc < 128 := by unfold home; omega

theorem nA_set (l : Tab) (i j : Nat) (p : Int × Int) (hi : i < l.length) : nA (l.set i p) j = if i = j then p.2 else nA l j := by
  unfold nA
  rw [List.getD_eq_getElem?_getD, List.getD_eq_getElem?_getD, List.getElem?_set]
  by_cases h : i = j
  · subst h; simp [hi]
  · simp [h]
theorem pcA_set (l : Tab) (i j : Nat) (p : Int × Int) (hi : i < l.length) : pcA (l.set i p) j = if i = j then p.1 else pcA l j := by
  unfold pcA
  rw [List.getD_eq_getElem?_getD, List.getD_eq_getElem?_getD, List.getElem?_set]
  by_cases h : i = j
  · subst h; simp [hi]
  · simp [h]

/-- What holds of a table: 128 places; of an address that is counted, all places from its first one on to where it is are taken; no address is there twice. -/
structure Inv (l : Tab) : Prop where
  len : l.length = 128
  chain : ∀ i, i < 128 → nA l i ≠ 0 → ∀ d, d < dist (home (pcA l i)) i → nA l ((home (pcA l i) + d) % 128) ≠ 0
  uniq : ∀ i j, i < 128 → j < 128 → nA l i ≠ 0 → nA l j ≠ 0 → pcA l i = pcA l j → i = j

/-- The walk of 'find': where it stands after k steps; it has not yet stopped. -/
def Passed (l : Tab) (pc : Int) (k : Nat) : Prop := ∀ d, d < k → nA l ((home pc + d) % 128) ≠ 0 ∧ pcA l ((home pc + d) % 128) ≠ pc

/-- A place that 'find' comes to. -/
structure HFound (l : Tab) (pc : Int) (s : Nat) : Prop where
  lt : s < 128
  stop : nA l s = 0 ∨ pcA l s = pc
  pass : ∀ d, d < dist (home pc) s → nA l ((home pc + d) % 128) ≠ 0 ∧ pcA l ((home pc + d) % 128) ≠ pc

theorem dist_step (a k : Nat) (ha : a < 128) (hk : k < 128) : dist a ((a + k) % 128) = k := by unfold dist; omega
theorem add_dist (a b : Nat) (ha : a < 128) (hb : b < 128) : (a + dist a b) % 128 = b := by unfold dist; omega

theorem hfound_of_passed {l : Tab} {pc : Int} {k : Nat} (h : Passed l pc k) (hk : k < 128) (hs : nA l ((home pc + k) % 128) = 0 ∨ pcA l ((home pc + k) % 128) = pc) : HFound l pc ((home pc + k) % 128) := by
  refine ⟨Nat.mod_lt _ (by decide), hs, fun d hd => ?_⟩
  rw [dist_step _ _ (home_lt pc) hk] at hd
  exact h d hd

theorem passed_lt {l : Tab} {pc : Int} {k e : Nat} (h : Passed l pc k) (he : e < 128) (hz : nA l e = 0) : k ≤ dist (home pc) e := by
  rcases Nat.lt_or_ge (dist (home pc) e) k with hlt | hge
  · have := (h _ hlt).1
    rw [add_dist _ _ (home_lt pc) he] at this
    exact absurd hz this
  · exact hge

/-- An address that is there is found where it is. -/
theorem hfound_there {l : Tab} {pc : Int} {s i : Nat} (h : Inv l) (hf : HFound l pc s) (hi : i < 128) (hn : nA l i ≠ 0) (hp : pcA l i = pc) : s = i := by
  rcases Nat.lt_trichotomy (dist (home pc) s) (dist (home pc) i) with hlt | heq | hgt
  · have hc := h.chain i hi hn (dist (home pc) s) (by rw [hp]; exact hlt)
    rw [hp, add_dist _ _ (home_lt pc) hf.lt] at hc
    rcases hf.stop with hz | hq
    · exact absurd hz hc
    · exact h.uniq s i hf.lt hi hc hn (hq.trans hp.symm)
  · have := add_dist _ _ (home_lt pc) hf.lt
    rw [heq, add_dist _ _ (home_lt pc) hi] at this
    exact this.symm
  · have := (hf.pass _ hgt).2
    rw [add_dist _ _ (home_lt pc) hi] at this
    exact absurd hp this

/-- The places that are taken. -/
def live (l : Tab) : List (Int × Int) := l.filter fun p => p.2 != 0

theorem mem_live {l : Tab} (hl : l.length = 128) {p : Int × Int} : p ∈ live l ↔ ∃ i, i < 128 ∧ nA l i ≠ 0 ∧ p = (pcA l i, nA l i) := by
  unfold live
  rw [List.mem_filter]
  constructor
  · rintro ⟨hm, hn⟩
    obtain ⟨i, hi, rfl⟩ := List.mem_iff_getElem.1 hm
    refine ⟨i, by omega, ?_, ?_⟩
    · simpa [nA, List.getD_eq_getElem?_getD, hi] using hn
    · simp [nA, pcA, List.getD_eq_getElem?_getD, hi]
  · rintro ⟨i, hi, hn, rfl⟩
    have hi' : i < l.length := by omega
    refine ⟨?_, by simpa using hn⟩
    have : (pcA l i, nA l i) = l[i] := by simp [nA, pcA, List.getD_eq_getElem?_getD, hi']
    rw [this]
    exact List.getElem_mem hi'

theorem live_full {l : Tab} (h : ∀ i, i < l.length → nA l i ≠ 0) : live l = l := by
  unfold live
  rw [List.filter_eq_self]
  intro p hp
  obtain ⟨i, hi, rfl⟩ := List.mem_iff_getElem.1 hp
  have := h i hi
  simpa [nA, List.getD_eq_getElem?_getD, hi] using this

theorem exists_free {l : Tab} (hl : l.length = 128) (h : (live l).length < 128) : ∃ e, e < 128 ∧ nA l e = 0 := by
  apply Classical.byContradiction
  intro hno
  have : live l = l := live_full fun i hi hz => hno ⟨i, by omega, hz⟩
  rw [this] at h
  omega

theorem live_set (l : Tab) (i : Nat) (p : Int × Int) (hi : i < l.length) : live (l.set i p) = live (l.take i) ++ (if p.2 != 0 then [p] else []) ++ live (l.drop (i + 1)) := by
  unfold live
  rw [List.set_eq_take_append_cons_drop, if_pos hi, List.filter_append, List.filter_cons]
  split <;> simp
theorem live_split (l : Tab) (i : Nat) (hi : i < l.length) : live l = live (l.take i) ++ (if nA l i != 0 then [(pcA l i, nA l i)] else []) ++ live (l.drop (i + 1)) := by
  have h := live_set l i (l[i]) hi
  rw [List.set_getElem_self] at h
  have e : (pcA l i, nA l i) = l[i] := by simp [nA, pcA, List.getD_eq_getElem?_getD, hi]
  have e2 : nA l i = (l[i]).2 := by rw [← e]
  rw [e, e2]
  exact h

/-- A place that was free is taken. -/
theorem live_take {l : Tab} {i : Nat} {p : Int × Int} (hi : i < l.length) (hz : nA l i = 0) (hp : p.2 ≠ 0) : (live (l.set i p)).Perm (p :: live l) := by
  rw [live_set l i p hi, live_split l i hi, hz]
  simp only [bne_self_eq_false, Bool.false_eq_true, if_false, List.append_nil]
  rw [if_pos (by simpa using hp)]
  simp
/-- A place is freed. -/
theorem live_free {l : Tab} {i : Nat} (hi : i < l.length) (hn : nA l i ≠ 0) : (live l).Perm ((pcA l i, nA l i) :: live (l.set i (0, 0))) := by
  rw [live_set l i _ hi, live_split l i hi]
  simp only [bne_self_eq_false, Bool.false_eq_true, if_false, List.append_nil]
  rw [if_pos (by simpa using hn)]
  simp
/-- A place is turned. -/
theorem live_turn {l : Tab} {i : Nat} {p : Int × Int} (hi : i < l.length) (hn : nA l i ≠ 0) (hp : p.2 ≠ 0) : ∃ r, (live l).Perm ((pcA l i, nA l i) :: r) ∧ (live (l.set i p)).Perm (p :: r) := by
  refine ⟨live (l.take i) ++ live (l.drop (i + 1)), ?_, ?_⟩
  · rw [live_split l i hi, if_pos (by simpa using hn)]
    simp
  · rw [live_set l i p hi, if_pos (by simpa using hp)]
    simp

/-- A new address is laid where 'find' came to. -/
theorem inv_add {l : Tab} {pc n : Int} {s : Nat} (h : Inv l) (hf : HFound l pc s) (hz : nA l s = 0) (hn : n ≠ 0) : Inv (l.set s (pc, n)) := by
  have hs : s < l.length := by rw [h.len]; exact hf.lt
  have N : ∀ j, nA (l.set s (pc, n)) j = if s = j then n else nA l j := fun j => nA_set l s j _ hs
  have P : ∀ j, pcA (l.set s (pc, n)) j = if s = j then pc else pcA l j := fun j => pcA_set l s j _ hs
  refine ⟨by simp [h.len], fun i hi hni d hd => ?_, fun i j hi hj hni hnj he => ?_⟩
  · rw [N] at hni ⊢
    rw [P] at hd ⊢
    by_cases e : s = i
    · subst e
      simp only [if_true] at hd ⊢
      split
      · exact hn
      · exact (hf.pass d hd).1
    · rw [if_neg e] at hni hd ⊢
      split
      · exact hn
      · exact h.chain i hi hni d hd
  · rw [N] at hni hnj
    rw [P, P] at he
    by_cases e : s = i <;> by_cases e' : s = j
    · omega
    · rw [if_pos e, if_neg e'] at he
      rw [if_neg e'] at hnj
      exact absurd (hfound_there h hf hj hnj he.symm) e'
    · rw [if_neg e, if_pos e'] at he
      rw [if_neg e] at hni
      exact absurd (hfound_there h hf hi hni he) e
    · rw [if_neg e, if_neg e'] at he
      rw [if_neg e] at hni
      rw [if_neg e'] at hnj
      exact h.uniq i j hi hj hni hnj he

/-- An address that is there comes more often. -/
theorem inv_turn {l : Tab} {n : Int} {s : Nat} (h : Inv l) (hs : s < 128) (hz : nA l s ≠ 0) (hn : n ≠ 0) : Inv (l.set s (pcA l s, n)) := by
  have hs' : s < l.length := by rw [h.len]; exact hs
  have N : ∀ j, nA (l.set s (pcA l s, n)) j ≠ 0 ↔ nA l j ≠ 0 := fun j => by
    rw [nA_set l s j _ hs']
    by_cases e : s = j
    · subst e; simp [hz, hn]
    · rw [if_neg e]
  have P : ∀ j, pcA (l.set s (pcA l s, n)) j = pcA l j := fun j => by
    rw [pcA_set l s j _ hs']
    by_cases e : s = j
    · subst e; simp
    · rw [if_neg e]
  refine ⟨by simp [h.len], fun i hi hni d hd => ?_, fun i j hi hj hni hnj he => ?_⟩
  · rw [P] at hd ⊢
    rw [N] at hni ⊢
    exact h.chain i hi hni d hd
  · rw [P, P] at he
    rw [N] at hni hnj
    exact h.uniq i j hi hj hni hnj he

/-- While those behind a hole move up: the hole, and how far the look has come. -/
structure Hole (l : Tab) (hole at_ : Nat) : Prop where
  len : l.length = 128
  lt : hole < 128
  alt : at_ < 128
  free : nA l hole = 0
  chain : ∀ i, i < 128 → nA l i ≠ 0 → ∀ d, d < dist (home (pcA l i)) i → nA l ((home (pcA l i) + d) % 128) ≠ 0 ∨ ((home (pcA l i) + d) % 128 = hole ∧ dist hole at_ < dist hole i)
  uniq : ∀ i j, i < 128 → j < 128 → nA l i ≠ 0 → nA l j ≠ 0 → pcA l i = pcA l j → i = j

theorem hole_begin {l : Tab} {s : Nat} (h : Inv l) (hs : s < 128) : Hole (l.set s (0, 0)) s s := by
  have hs' : s < l.length := by rw [h.len]; exact hs
  have N : ∀ j, nA (l.set s (0, 0)) j = if s = j then 0 else nA l j := fun j => nA_set l s j _ hs'
  have P : ∀ j, pcA (l.set s (0, 0)) j = if s = j then 0 else pcA l j := fun j => pcA_set l s j _ hs'
  refine ⟨by simp [h.len], hs, hs, by rw [N, if_pos rfl], fun i hi hni d hd => ?_, fun i j hi hj hni hnj he => ?_⟩
  · rw [N] at hni
    have e : ¬ s = i := fun e => by rw [if_pos e] at hni; exact hni rfl
    rw [if_neg e] at hni
    rw [P, if_neg e] at hd ⊢
    rw [N]
    by_cases e' : s = (home (pcA l i) + d) % 128
    · right
      refine ⟨e'.symm, ?_⟩
      unfold dist
      omega
    · left
      rw [if_neg e']
      exact h.chain i hi hni d hd
  · rw [N] at hni hnj
    have e : ¬ s = i := fun e => by rw [if_pos e] at hni; exact hni rfl
    have e' : ¬ s = j := fun e => by rw [if_pos e] at hnj; exact hnj rfl
    rw [if_neg e] at hni
    rw [if_neg e'] at hnj
    rw [P, P, if_neg e, if_neg e'] at he
    exact h.uniq i j hi hj hni hnj he

/-- The next place is free: nothing is to be moved any more. -/
theorem hole_end {l : Tab} {hole at_ : Nat} (h : Hole l hole at_) (hne : (at_ + 1) % 128 ≠ hole) (hz : nA l ((at_ + 1) % 128) = 0) : Inv l := by
  refine ⟨h.len, fun i hi hni d hd => ?_, h.uniq⟩
  rcases h.chain i hi hni d hd with h1 | ⟨h1, h2⟩
  · exact h1
  · exfalso
    have hb := home_lt (pcA l i)
    -- the free place lies on the way from the hole to i
    have hi' : i ≠ (at_ + 1) % 128 := fun e => hni (e ▸ hz)
    have hd2 : dist (home (pcA l i)) ((at_ + 1) % 128) < dist (home (pcA l i)) i := by
      have := h.lt; have := h.alt
      unfold dist at *
      omega
    rcases h.chain i hi hni _ hd2 with h3 | ⟨h3, _⟩
    · rw [add_dist _ _ hb (Nat.mod_lt _ (by decide))] at h3
      exact h3 hz
    · rw [add_dist _ _ hb (Nat.mod_lt _ (by decide))] at h3
      exact hne h3

/-- The next one stays. -/
theorem hole_stay {l : Tab} {hole at_ : Nat} (h : Hole l hole at_) (hn : nA l ((at_ + 1) % 128) ≠ 0) (hs : dist (home (pcA l ((at_ + 1) % 128))) ((at_ + 1) % 128) < dist hole ((at_ + 1) % 128)) : Hole l hole ((at_ + 1) % 128) := by
  have hne : (at_ + 1) % 128 ≠ hole := fun e => hn (e ▸ h.free)
  have h1 := h.lt; have h2 := h.alt
  refine ⟨h.len, h.lt, Nat.mod_lt _ (by decide), h.free, fun i hi hni d hd => ?_, h.uniq⟩
  rcases h.chain i hi hni d hd with h3 | ⟨h3, h4⟩
  · exact .inl h3
  · right
    refine ⟨h3, ?_⟩
    by_cases e : i = (at_ + 1) % 128
    · exfalso
      have hb := home_lt (pcA l i)
      rw [← e] at hs
      unfold dist at *
      omega
    · unfold dist at *
      omega

/-- The next one moves up into the hole. -/
theorem hole_move {l : Tab} {hole at_ : Nat} (h : Hole l hole at_) (hn : nA l ((at_ + 1) % 128) ≠ 0) (hs : ¬ dist (home (pcA l ((at_ + 1) % 128))) ((at_ + 1) % 128) < dist hole ((at_ + 1) % 128)) : Hole ((l.set hole (pcA l ((at_ + 1) % 128), nA l ((at_ + 1) % 128))).set ((at_ + 1) % 128) (0, 0)) ((at_ + 1) % 128) ((at_ + 1) % 128) := by
  obtain ⟨b, hb⟩ : ∃ b, (at_ + 1) % 128 = b := ⟨_, rfl⟩
  rw [hb] at hn hs ⊢
  have hne : b ≠ hole := fun e => hn (e ▸ h.free)
  have h1 := h.lt; have h2 := h.alt
  have hbl : b < 128 := by omega
  have l1 : hole < l.length := by rw [h.len]; exact h1
  have l2 : b < (l.set hole (pcA l b, nA l b)).length := by rw [List.length_set, h.len]; exact hbl
  have N : ∀ j, nA ((l.set hole (pcA l b, nA l b)).set b (0, 0)) j = if b = j then 0 else if hole = j then nA l b else nA l j := fun j => by rw [nA_set _ _ _ _ l2, nA_set _ _ _ _ l1]
  have P : ∀ j, pcA ((l.set hole (pcA l b, nA l b)).set b (0, 0)) j = if b = j then 0 else if hole = j then pcA l b else pcA l j := fun j => by rw [pcA_set _ _ _ _ l2, pcA_set _ _ _ _ l1]
  refine ⟨by simp [h.len], hbl, hbl, by rw [N, if_pos rfl], fun i hi hni d hd => ?_, fun i j hi hj hni hnj he => ?_⟩
  · rw [N] at hni
    have e : ¬ b = i := fun e => by rw [if_pos e] at hni; exact hni rfl
    rw [if_neg e] at hni
    rw [P, if_neg e] at hd ⊢
    rw [N]
    by_cases e2 : hole = i
    · rw [if_pos e2] at hni hd ⊢
      have hb2 := home_lt (pcA l b)
      left
      have hd' : d < dist (home (pcA l b)) b := by unfold dist at *; omega
      have hne1 : ¬ b = (home (pcA l b) + d) % 128 := by unfold dist at *; omega
      have hne2 : ¬ hole = (home (pcA l b) + d) % 128 := by unfold dist at *; omega
      rw [if_neg hne1, if_neg hne2]
      rcases h.chain b hbl hn d hd' with h3 | ⟨h3, h4⟩
      · exact h3
      · exact absurd h3.symm hne2
    · rw [if_neg e2] at hni hd ⊢
      by_cases e3 : b = (home (pcA l i) + d) % 128
      · right
        refine ⟨e3.symm, ?_⟩
        unfold dist
        omega
      · left
        rw [if_neg e3]
        by_cases e4 : hole = (home (pcA l i) + d) % 128
        · rw [if_pos e4]; exact hn
        · rw [if_neg e4]
          rcases h.chain i hi hni d hd with h3 | ⟨h3, h4⟩
          · exact h3
          · exact absurd h3.symm e4
  · rw [N] at hni hnj
    have e : ¬ b = i := fun e => by rw [if_pos e] at hni; exact hni rfl
    have e' : ¬ b = j := fun e => by rw [if_pos e] at hnj; exact hnj rfl
    rw [if_neg e] at hni
    rw [if_neg e'] at hnj
    rw [P, P, if_neg e, if_neg e'] at he
    by_cases f : hole = i <;> by_cases f' : hole = j
    · omega
    · rw [if_pos f, if_neg f'] at he
      rw [if_neg f'] at hnj
      exact absurd (h.uniq b j hbl hj hn hnj he) e'
    · rw [if_neg f, if_pos f'] at he
      rw [if_neg f] at hni
      exact absurd (h.uniq i b hi hbl hni hn he).symm e
    · rw [if_neg f, if_neg f'] at he
      rw [if_neg f] at hni
      rw [if_neg f'] at hnj
      exact h.uniq i j hi hj hni hnj he

/-- What moves up stays counted. -/
theorem live_move {l : Tab} {hole b : Nat} (hl : l.length = 128) (h1 : hole < 128) (hbl : b < 128) (hne : b ≠ hole) (hz : nA l hole = 0) (hn : nA l b ≠ 0) : (live ((l.set hole (pcA l b, nA l b)).set b (0, 0))).Perm (live l) := by
  have a1 := live_take (l := l) (i := hole) (p := (pcA l b, nA l b)) (by omega) hz hn
  have hn2 : nA (l.set hole (pcA l b, nA l b)) b = nA l b := by rw [nA_set _ _ _ _ (by omega), if_neg (Ne.symm hne)]
  have hp2 : pcA (l.set hole (pcA l b, nA l b)) b = pcA l b := by rw [pcA_set _ _ _ _ (by omega), if_neg (Ne.symm hne)]
  have a2 := live_free (l := l.set hole (pcA l b, nA l b)) (i := b) (by simp; omega) (by rw [hn2]; exact hn)
  rw [hn2, hp2] at a2
  exact (List.Perm.cons_inv (a2.symm.trans a1))

/-- 'find' comes to one place alone; and it comes to one. -/
theorem hfound_one {l : Tab} {pc : Int} {s t : Nat} (h : HFound l pc s) (k : HFound l pc t) : s = t := by
  rcases Nat.lt_trichotomy (dist (home pc) s) (dist (home pc) t) with hlt | heq | hgt
  · have := k.pass _ hlt
    rw [add_dist _ _ (home_lt pc) h.lt] at this
    rcases h.stop with hz | hq
    · exact absurd hz this.1
    · exact absurd hq this.2
  · have := add_dist _ _ (home_lt pc) h.lt
    rw [heq, add_dist _ _ (home_lt pc) k.lt] at this
    exact this.symm
  · have := h.pass _ hgt
    rw [add_dist _ _ (home_lt pc) k.lt] at this
    rcases k.stop with hz | hq
    · exact absurd hz this.1
    · exact absurd hq this.2
theorem hfound_some (l : Tab) (pc : Int) (e : Nat) (he : e < 128) (hz : nA l e = 0) : ∃ s, HFound l pc s := by
  have hD : dist (home pc) e < 128 := Nat.mod_lt _ (by decide)
  have key : ∀ j, j ≤ dist (home pc) e → Passed l pc j ∨ ∃ s, HFound l pc s := by
    intro j
    induction j with
    | zero => intro _; exact .inl fun d hd => absurd hd (by omega)
    | succ j ih =>
      intro hj
      rcases ih (by omega) with h | h
      · by_cases hs : nA l ((home pc + j) % 128) = 0 ∨ pcA l ((home pc + j) % 128) = pc
        · exact .inr ⟨_, hfound_of_passed h (by omega) hs⟩
        · refine .inl fun d hd => ?_
          rcases Nat.lt_or_eq_of_le (Nat.le_of_lt_succ hd) with h' | h'
          · exact h d h'
          · subst h'
            exact ⟨fun h => hs (.inl h), fun h => hs (.inr h)⟩
      · exact .inr h
  rcases key _ (Nat.le_refl _) with h | h
  · exact ⟨_, hfound_of_passed h hD (.inl (by rw [add_dist _ _ (home_lt pc) he]; exact hz))⟩
  · exact h

/-- How often an address came, out of the places that are taken. -/
def hof (w : List (Int × Int)) (pc : Int) : Int := ((w.find? fun p => p.1 == pc).map (·.2)).getD 0

theorem nodup_live {l : Tab} (h : Inv l) : ((live l).map Prod.fst).Nodup := by
  unfold live
  rw [List.nodup_iff_pairwise_ne, List.pairwise_map]
  have : l.Pairwise fun p q => p.2 ≠ 0 → q.2 ≠ 0 → p.1 ≠ q.1 := by
    rw [List.pairwise_iff_getElem]
    intro i j hi hj hij h1 h2 he
    have a1 : nA l i = l[i].2 := by simp [nA, List.getD_eq_getElem?_getD, hi]
    have a2 : nA l j = l[j].2 := by simp [nA, List.getD_eq_getElem?_getD, hj]
    have b1 : pcA l i = l[i].1 := by simp [pcA, List.getD_eq_getElem?_getD, hi]
    have b2 : pcA l j = l[j].1 := by simp [pcA, List.getD_eq_getElem?_getD, hj]
    have := h.uniq i j (by have := h.len; omega) (by have := h.len; omega) (by rw [a1]; exact h1) (by rw [a2]; exact h2) (by rw [b1, b2]; exact he)
    omega
  have h2 := this.filter (fun p => p.2 != 0)
  refine List.Pairwise.imp_of_mem ?_ h2
  intro a b ha hb hab
  have := (List.mem_filter.1 ha).2
  have := (List.mem_filter.1 hb).2
  exact hab (by simpa using ‹(a.2 != 0) = true›) (by simpa using ‹(b.2 != 0) = true›)

theorem hof_mem {w : List (Int × Int)} (hn : (w.map Prod.fst).Nodup) {pc n : Int} (h : (pc, n) ∈ w) : hof w pc = n := by
  induction w with
  | nil => cases h
  | cons p w ih =>
    simp only [List.map_cons, List.nodup_cons] at hn
    unfold hof
    rw [List.find?_cons]
    rcases List.mem_cons.1 h with rfl | h'
    · simp
    · by_cases e : p.1 == pc
      · exfalso
        have e' : p.1 = pc := by simpa using e
        exact hn.1 (List.mem_map.2 ⟨_, h', e'.symm⟩)
      · rw [Bool.eq_false_iff.2 e]
        exact ih hn.2 h'
theorem hof_none {w : List (Int × Int)} {pc : Int} (h : ∀ n, (pc, n) ∉ w) : hof w pc = 0 := by
  unfold hof
  rw [List.find?_eq_none.2]
  · rfl
  · rintro ⟨a, b⟩ hp e
    have : a = pc := by simpa using e
    subst this
    exact h b hp
theorem hof_perm {w v : List (Int × Int)} (hp : w.Perm v) (hn : (w.map Prod.fst).Nodup) (pc : Int) : hof w pc = hof v pc := by
  by_cases h : ∃ n, (pc, n) ∈ w
  · obtain ⟨n, h⟩ := h
    rw [hof_mem hn h, hof_mem ((hp.map Prod.fst).nodup_iff.1 hn) (hp.mem_iff.1 h)]
  · rw [hof_none fun n hh => h ⟨n, hh⟩, hof_none fun n hh => h ⟨n, hp.mem_iff.2 hh⟩]

/-- What stands at the place that 'find' comes to is how often the address came. -/
theorem hof_found {l : Tab} {pc : Int} {s : Nat} (h : Inv l) (hf : HFound l pc s) : hof (live l) pc = nA l s := by
  by_cases hz : nA l s = 0
  · rw [hz]
    apply hof_none
    intro n hm
    obtain ⟨i, hi, hn, he⟩ := (mem_live h.len).1 hm
    have := hfound_there h hf hi hn (by rw [Prod.mk.injEq] at he; exact he.1.symm)
    exact hn (this ▸ hz)
  · have hq : pcA l s = pc := by rcases hf.stop with h' | h'; exact absurd h' hz; exact h'
    exact hof_mem (nodup_live h) ((mem_live h.len).2 ⟨s, hf.lt, hz, by rw [hq]⟩)

/-- What adding does to the places, and what it answers. -/
def hadd (W : List (Int × Int)) (pc n : Int) : List (Int × Int) × Int :=
  if n = 0 then (W, hof W pc) else if hof W pc = 0 then (if 64 ≤ W.length then (W, 0) else (W ++ [(pc, n)], n)) else (W.map (fun p => if p.1 = pc then (pc, hof W pc + (if 4294967295 - hof W pc < n then 4294967295 - hof W pc else n)) else p), hof W pc + (if 4294967295 - hof W pc < n then 4294967295 - hof W pc else n))
/-- What forgetting does. -/
def hforget (W : List (Int × Int)) (pc : Int) : List (Int × Int) × Bool :=
  if hof W pc = 0 then (W, false) else (W.filter (fun p => p.1 != pc), true)

/-- What holds of the places that are counted. -/
structure HGood (W : List (Int × Int)) : Prop where
  nodup : (W.map Prod.fst).Nodup
  few : W.length ≤ 64
  rng : ∀ p ∈ W, 0 ≤ p.1 ∧ p.1 < 4294967296 ∧ 0 < p.2 ∧ p.2 < 4294967296
theorem HGood.of {W : List (Int × Int)} (h : HGood W) (pc : Int) : 0 ≤ hof W pc ∧ hof W pc < 4294967296 := by
  by_cases e : ∃ n, (pc, n) ∈ W
  · obtain ⟨n, e⟩ := e
    rw [hof_mem h.nodup e]
    have := h.rng _ e
    simp only at this
    omega
  · rw [hof_none fun n hh => e ⟨n, hh⟩]; omega
theorem hof_zero {W : List (Int × Int)} (h : HGood W) (pc : Int) (hz : hof W pc = 0) (n : Int) : (pc, n) ∉ W := by
  intro hm
  rw [hof_mem h.nodup hm] at hz
  have := (h.rng _ hm).2.2.1
  simp only at this
  omega
theorem hof_pos {W : List (Int × Int)} (h : HGood W) (pc : Int) (hz : hof W pc ≠ 0) : (pc, hof W pc) ∈ W := by
  by_cases e : ∃ n, (pc, n) ∈ W
  · obtain ⟨n, e⟩ := e
    rw [hof_mem h.nodup e]; exact e
  · exact absurd (hof_none fun n hh => e ⟨n, hh⟩) hz

theorem good_add {W : List (Int × Int)} (h : HGood W) {pc n : Int} (h0 : 0 ≤ pc) (h1 : pc < 4294967296) (n0 : 0 ≤ n) (n1 : n < 4294967296) : HGood (hadd W pc n).1 := by
  unfold hadd
  split
  · exact h
  · split
    · rename_i hn hz
      split
      · exact h
      · refine ⟨?_, by simp; omega, fun p hp => ?_⟩
        · rw [List.map_append, List.map_cons, List.map_nil, List.nodup_append]
          refine ⟨h.nodup, by simp, fun a ha b hb => ?_⟩
          simp only [List.mem_singleton] at hb
          subst hb
          rintro rfl
          obtain ⟨q, hq, e⟩ := List.mem_map.1 ha
          exact hof_zero h _ hz q.2 (by rw [← e]; exact hq)
        · rcases List.mem_append.1 hp with hp | hp
          · exact h.rng p hp
          · rw [List.mem_singleton.1 hp]; simp only; omega
    · rename_i hn hz
      have hv := h.of pc
      refine ⟨?_, by simpa using h.few, fun p hp => ?_⟩
      · rw [List.map_map]
        have : ((Prod.fst : Int × Int → Int) ∘ fun p : Int × Int => if p.1 = pc then (pc, hof W pc + (if 4294967295 - hof W pc < n then 4294967295 - hof W pc else n)) else p) = Prod.fst := by
          funext p
          simp only [Function.comp]
          split
          · rename_i e; exact e.symm
          · rfl
        rw [this]; exact h.nodup
      · obtain ⟨q, hq, rfl⟩ := List.mem_map.1 hp
        split
        · simp only; split <;> omega
        · exact h.rng q hq
theorem good_forget {W : List (Int × Int)} (h : HGood W) (pc : Int) : HGood (hforget W pc).1 := by
  unfold hforget
  split
  · exact h
  · refine ⟨h.nodup.sublist (List.Sublist.map _ List.filter_sublist), Nat.le_trans (List.length_filter_le _ _) h.few, fun p hp => h.rng p (List.mem_filter.1 hp).1⟩

/-- A place is turned: the places, up to their order. -/
theorem perm_turn {W r : List (Int × Int)} {pc x v : Int} (hp : ((pc, x) :: r).Perm W) (hn : (W.map Prod.fst).Nodup) : ((pc, v) :: r).Perm (W.map fun p => if p.1 = pc then (pc, v) else p) := by
  have h1 := hp.map fun p : Int × Int => if p.1 = pc then (pc, v) else p
  refine List.Perm.trans ?_ h1
  have h2 := (hp.map Prod.fst).nodup_iff.2 hn
  simp only [List.map_cons, List.nodup_cons] at h2
  simp only [List.map_cons, if_true]
  refine List.Perm.cons _ (List.Perm.of_eq ?_)
  symm
  refine (List.map_congr_left fun q hq => ?_).trans (List.map_id _)
  rw [if_neg (fun e => h2.1 (List.mem_map.2 ⟨q, hq, e⟩))]
  rfl
theorem perm_free {W r : List (Int × Int)} {pc x : Int} (hp : ((pc, x) :: r).Perm W) (hn : (W.map Prod.fst).Nodup) : r.Perm (W.filter fun p => p.1 != pc) := by
  have h1 := hp.filter fun p : Int × Int => p.1 != pc
  refine List.Perm.trans ?_ h1
  have h2 := (hp.map Prod.fst).nodup_iff.2 hn
  simp only [List.map_cons, List.nodup_cons] at h2
  rw [List.filter_cons_of_neg (by simp)]
  refine List.Perm.of_eq (List.filter_eq_self.2 fun q hq => ?_).symm
  simp only [bne_iff_ne]
  exact fun e => h2.1 (List.mem_map.2 ⟨q, hq, e⟩)

end Go.Proofs.Ytbphciahojjnpaa.HotPlain
