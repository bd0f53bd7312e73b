/- A region that draws its order, walked once (RegInv), where an operation may do away with what others have left. -/
import Derived.Orders
import Derived.Below
import Derived.KernelRfl
namespace Go.Proofs.Ytfnbpmkbjbibkaa
open Go
set_option linter.unusedVariables false

/-- The slot that operation j writes. -/
def slotOf (ops : Array Oper) (j : Nat) : Nat := match ops[j]? with
  | some o => match o.dst with
    | some t => t
    | none => 1000000000
  | none => 1000000000
def isDst (ops : Array Oper) (t : Nat) : Bool := ops.any fun o => o.dst == some t
/-- Does operation i wait for j? -/
def waitsFor (ops : Array Oper) (i j : Nat) : Bool := match ops[i]? with
  | some o => o.after.any fun e => Region.binds .any e && (e.on == j)
  | none => false
/-- The slots are apart, and there; the operations from m on wait for all ahead of m, and none of those for them. -/
def regOk (ops : Array Oper) (n m : Nat) : Bool :=
  decide (n < 1000000000) && ops.all (fun o => match o.dst with | some t => decide (t < n) | none => true) && decide ((ops.toList.filterMap fun o => o.dst).Nodup) &&
    decide (m ≤ ops.size) && (List.range ops.size).all (fun i => match ops[i]? with | some o => o.after.all fun e => !Region.binds .any e || decide (e.on < i) | none => true) && (List.range ops.size).all (fun i => decide (i < m) || (List.range m).all fun j => waitsFor ops i j)

theorem nodup_filterMap_inj {α β : Type} (f : α → Option β) : ∀ (l : List α), (l.filterMap f).Nodup → ∀ (i j : Nat) (x y : α) (t : β), l[i]? = some x → l[j]? = some y → f x = some t → f y = some t → i = j := by
  intro l
  induction l with
  | nil => intro _ i j x y t hx; simp at hx
  | cons a l ih =>
    intro h i j x y t hx hy fx fy
    cases hfa : f a with
    | none =>
      rw [List.filterMap_cons_none hfa] at h
      cases i with
      | zero => simp at hx; subst hx; rw [hfa] at fx; cases fx
      | succ i =>
        cases j with
        | zero => simp at hy; subst hy; rw [hfa] at fy; cases fy
        | succ j => exact congrArg (· + 1) (ih h i j x y t (by simpa using hx) (by simpa using hy) fx fy)
    | some b =>
      rw [List.filterMap_cons_some hfa, List.nodup_cons] at h
      have mem : ∀ (k : Nat) (z : α), l[k]? = some z → f z = some b → False := fun k z hz fz => h.1 (List.mem_filterMap.2 ⟨z, List.mem_of_getElem? hz, fz⟩)
      cases i with
      | zero =>
        simp at hx; subst hx
        rw [hfa] at fx; cases fx
        cases j with
        | zero => rfl
        | succ j => exact (mem j y (by simpa using hy) fy).elim
      | succ i =>
        cases j with
        | zero =>
          simp at hy; subst hy
          rw [hfa] at fy; cases fy
          exact (mem i x (by simpa using hx) fx).elim
        | succ j => exact congrArg (· + 1) (ih h.2 i j x y t (by simpa using hx) (by simpa using hy) fx fy)

section
variable {P : Program} {ops : Array Oper} {Q : Exit → Act → World → Prop} {a0 : Act} {m : Nat} {inv : World → Prop} {R : World → World → Prop} {post : Nat → Value → World → Prop}
structure RJ (ops : Array Oper) (a0 : Act) (m : Nat) (inv : World → Prop) (post : Nat → Value → World → Prop) (listed : Array Bool) (a : Act) (w : World) : Prop where
  inv : inv w
  size : a.tmps.size = a0.tmps.size
  defs : a.defers = a0.defers
  keep : ∀ t, isDst ops t = false → a.tmps.getD t undef = a0.tmps.getD t undef
  done : ∀ j, j < m → listed.getD j false = true → post j (a.tmps.getD (slotOf ops j) undef) w
  ls : listed.size = ops.size
  tl : ∀ j, m ≤ j → j < ops.size → listed.getD j true = false

theorem putd (a : Act) (t : Nat) (v : Value) (s : Nat) (h : t < a.tmps.size) : (a.put (some t) v).tmps.getD s undef = if s = t then v else a.tmps.getD s undef := by
  show (a.tmps.setIfInBounds t v).getD s undef = _
  by_cases hs : s = t
  · subst hs; simp [h]
  · simp [hs, Array.getElem?_setIfInBounds_ne (Ne.symm hs)]

theorem slot_some {j t : Nat} {o : Oper} (h : ops[j]? = some o) (hd : o.dst = some t) : slotOf ops j = t := by
  unfold slotOf; rw [h]; simp only; rw [hd]
theorem slot_none {j : Nat} {o : Oper} (h : ops[j]? = some o) (hd : o.dst = none) : slotOf ops j = 1000000000 := by
  unfold slotOf; rw [h]; simp only; rw [hd]
theorem rj_step (hok : regOk ops a0.tmps.size m = true) (hR : ∀ (j : Nat) (v : Value) (w w' : World), post j v w → R w w' → post j v w') {listed : Array Bool} {a : Act} {w : World} {i : Nat} {o : Oper} (hi : ops[i]? = some o) (him : i < m)
    (h : RJ ops a0 m inv post listed a w) (v : Value) (w' : World) (hw : inv w') (hr : R w w') (hp : post i (match o.dst with | none => undef | some _ => v) w') :
    RJ ops a0 m inv post (listed.setIfInBounds i true) (a.put o.dst v) w' := by
  simp only [regOk, Bool.and_eq_true, decide_eq_true_eq] at hok
  obtain ⟨⟨⟨⟨⟨h1, h2⟩, h3⟩, h4⟩, h6⟩, h5⟩ := hok
  have hslot : ∀ (j : Nat) (oj : Oper) (t : Nat), ops[j]? = some oj → oj.dst = some t → t < a0.tmps.size := by
    intro j oj t hj ht
    have := (Array.all_eq_true_iff_forall_mem.1 h2) oj (Array.mem_of_getElem? hj)
    rw [ht] at this
    simpa using this
  have hil : i < listed.size := by rw [h.ls]; exact (Array.getElem?_eq_some_iff.1 hi).1
  refine ⟨hw, ?_, ?_, ?_, ?_, by simp [h.ls], ?_⟩
  · cases hd : o.dst with
    | none => exact h.size
    | some t => show (a.tmps.setIfInBounds t v).size = _; simp [h.size]
  · cases hd : o.dst with
    | none => exact h.defs
    | some t => exact h.defs
  · intro t ht
    rw [← h.keep t ht]
    cases hd : o.dst with
    | none => rfl
    | some s =>
      rw [putd _ _ _ _ (by rw [h.size]; exact hslot i o s hi hd), if_neg]
      rintro rfl
      have : isDst ops t = true := by
        unfold isDst
        rw [Array.any_eq_true']
        exact ⟨o, Array.mem_of_getElem? hi, by simp [hd]⟩
      rw [this] at ht; cases ht
  · intro j hj hl
    by_cases hji : j = i
    · subst hji
      have e : (a.put o.dst v).tmps.getD (slotOf ops j) undef = (match o.dst with | none => undef | some _ => v) := by
        cases hd : o.dst with
        | none =>
          rw [slot_none hi hd]
          show a.tmps.getD 1000000000 undef = undef
          have : a.tmps.size ≤ 1000000000 := by rw [h.size]; omega
          simp [Array.getElem?_eq_none this]
        | some t =>
          rw [slot_some hi hd, putd _ _ _ _ (by rw [h.size]; exact hslot j o t hi hd), if_pos rfl]
      rw [e]; exact hp
    · have hl' : listed.getD j false = true := by
        rw [← hl]
        simp [Array.getElem?_setIfInBounds_ne (Ne.symm hji)]
      have := hR _ _ _ _ (h.done j hj hl') hr
      have e : (a.put o.dst v).tmps.getD (slotOf ops j) undef = a.tmps.getD (slotOf ops j) undef := by
        cases hd : o.dst with
        | none => rfl
        | some t =>
          rw [putd _ _ _ _ (by rw [h.size]; exact hslot i o t hi hd), if_neg]
          have ht := hslot i o t hi hd
          cases hoj : ops[j]? with
          | none => unfold slotOf; rw [hoj]; simp only; omega
          | some oj =>
            cases hdj : oj.dst with
            | none => rw [slot_none hoj hdj]; omega
            | some s =>
              rw [slot_some hoj hdj]
              rintro rfl
              exact hji (nodup_filterMap_inj (fun o => o.dst) ops.toList h3 j i oj o s (by simpa using hoj) (by simpa using hi) hdj hd)
      rw [e]; exact this
  · intro j hj hjs
    have := h.tl j hj hjs
    rw [← this]
    simp [Array.getElem?_setIfInBounds_ne (show i ≠ j by omega)]

theorem count_set_true : ∀ (l : List Bool) (i : Nat), l[i]? = some false → (l.set i true).count false + 1 = l.count false := by
  intro l
  induction l with
  | nil => intro i h; simp at h
  | cons b l ih =>
    intro i h
    cases i with
    | zero => simp at h; subst h; simp
    | succ i =>
      have := ih i (by simpa using h)
      simp only [List.set_cons_succ, List.count_cons]
      omega

/-- What has come when all ahead of m have. -/
def maskOf (n m : Nat) : Array Bool := ((List.range n).map fun i => decide (i < m)).toArray

theorem wpAny_rj (hok : regOk ops a0.tmps.size m = true) (hR : ∀ (j : Nat) (v : Value) (w w' : World), post j v w → R w w' → post j v w')
    (hstep : ∀ (i : Nat) (o : Oper), ops[i]? = some o → i < m → ∀ (a : Act) (w : World), inv w → (∀ (t : Nat), isDst ops t = false → a.tmps.getD t undef = a0.tmps.getD t undef) → a.defers = a0.defers → (∀ (j : Nat), waitsFor ops i j = true → j < m → post j (a.tmps.getD (slotOf ops j) undef) w) →
      ∀ (K : Act → World → Prop), (∀ (v : Value) (w' : World), inv w' → R w w' → post i (match o.dst with | none => undef | some _ => v) w' → K (a.put o.dst v) w') → if Region.wanted o (yielded ops a.tmps) = true then o.wp P a w K Q else K (a.put o.dst undef) w)
    (hend : ∀ (a : Act) (w : World), inv w → a.tmps.size = a0.tmps.size → a.defers = a0.defers → (∀ (t : Nat), isDst ops t = false → a.tmps.getD t undef = a0.tmps.getD t undef) → (∀ (j : Nat), j < m → post j (a.tmps.getD (slotOf ops j) undef) w) → wpAny P .any ops Q (ops.size - m) (maskOf ops.size m) a w) :
    ∀ (fuel : Nat) (listed : Array Bool) (a : Act) (w : World), listed.toList.count false = fuel → RJ ops a0 m inv post listed a w → wpAny P .any ops Q fuel listed a w := by
  have hok' := hok
  simp only [regOk, Bool.and_eq_true, decide_eq_true_eq] at hok'
  obtain ⟨⟨⟨⟨⟨h1, h2⟩, h3⟩, h4⟩, h6⟩, h5⟩ := hok'
  intro fuel
  induction fuel with
  | zero =>
    intro listed a w hc h
    have hall : ∀ (j : Nat), j < ops.size → listed.getD j false = true := by
      intro j hj
      have hjl : j < listed.size := by rw [h.ls]; exact hj
      have : listed[j] ≠ false := by
        intro hf
        have : 0 < listed.toList.count false := List.count_pos_iff.2 (by rw [← hf]; simp)
        omega
      simp [hjl]
      simpa using this
    have hm : m = ops.size := by
      rcases Nat.lt_or_ge m ops.size with hlt | hge
      · have a1 := h.tl m (Nat.le_refl _) hlt
        have a2 := hall m hlt
        have hml : m < listed.size := by rw [h.ls]; exact hlt
        simp [hml] at a1 a2
        rw [a1] at a2; cases a2
      · omega
    have := hend a w h.inv h.size h.defs h.keep (fun j hj => h.done j hj (hall j (by omega)))
    rw [hm, Nat.sub_self] at this
    refine ⟨?_, this.2⟩
    rw [List.eq_nil_iff_forall_not_mem]
    intro j hj
    obtain ⟨hf, o, ho, _⟩ := mem_ready.1 hj
    have hjs := (Array.getElem?_eq_some_iff.1 ho).1
    have a2 := hall j hjs
    have hjl : j < listed.size := by rw [h.ls]; exact hjs
    simp [hjl] at hf a2
    rw [hf] at a2; cases a2
  | succ fuel ih =>
    intro listed a w hc h
    by_cases hd : ∀ (j : Nat), j < m → listed.getD j false = true
    · -- all ahead of m have come
      have hmask : listed = maskOf ops.size m := by
        apply Array.ext
        · simp [maskOf, h.ls]
        · intro j hj1 hj2
          have hjs : j < ops.size := by rw [← h.ls]; exact hj1
          have : (maskOf ops.size m)[j] = decide (j < m) := by simp [maskOf]
          rw [this]
          by_cases hjm : j < m
          · have := hd j hjm
            simp [hj1] at this
            simp [hjm, this]
          · have := h.tl j (by omega) hjs
            simp [hj1] at this
            simp [hjm, this]
      have hcnt : ops.size - m = fuel + 1 := by
        rw [← hc, hmask]
        have : ∀ (n m : Nat), m ≤ n → ((List.range n).map fun i => decide (i < m)).count false = n - m := by
          intro n m hmn
          induction n with
          | zero => simp
          | succ n ihn =>
            rw [List.range_succ, List.map_append, List.count_append]
            rcases Nat.lt_or_ge n m with hlt | hge
            · have : m = n + 1 := by omega
              subst this
              have e : ((List.range n).map fun i => decide (i < n + 1)).count false = 0 := by
                rw [List.count_eq_zero]
                intro hmem
                obtain ⟨x, hx, hx'⟩ := List.mem_map.1 hmem
                have := List.mem_range.1 hx
                simp at hx'; omega
              rw [e]; simp
            · rw [ihn hge]
              have : ¬ n < m := by omega
              simp [this]; omega
        simp [maskOf, this ops.size m h4]
      rw [← hcnt, hmask]
      exact hend a w h.inv h.size h.defs h.keep (fun j hj => h.done j hj (hd j hj))
    · have hex : ∃ j : Nat, j < m ∧ listed.getD j false = false := by
        apply Classical.byContradiction
        intro hn
        apply hd
        intro j hj
        cases hb : listed.getD j false with
        | true => rfl
        | false => exact (hn ⟨j, hj, hb⟩).elim
      obtain ⟨j0, hj0, hj0f⟩ := hex
      have tailno : ∀ (i : Nat), i ∈ Region.ready .any ops listed → i < m := by
        intro i hi
        rcases Nat.lt_or_ge i m with hlt | hge
        · exact hlt
        · exfalso
          obtain ⟨hf, o, ho, hall⟩ := mem_ready.1 hi
          have his := (Array.getElem?_eq_some_iff.1 ho).1
          have hw := (List.all_eq_true.1 h5) i (List.mem_range.2 his)
          simp only [Bool.or_eq_true, decide_eq_true_eq] at hw
          rcases hw with hw | hw
          · omega
          · have hw2 := (List.all_eq_true.1 hw) j0 (List.mem_range.2 hj0)
            unfold waitsFor at hw2
            rw [ho] at hw2
            simp only [Array.any_eq_true', Bool.and_eq_true, beq_iff_eq] at hw2
            obtain ⟨e, he, hb, hon⟩ := hw2
            have := hall e he hb
            rw [hon, hj0f] at this; cases this
      have progress : ∀ (n j : Nat), j < n → j < m → listed.getD j false = false → ∃ i, i ∈ Region.ready .any ops listed := by
        intro n
        induction n with
        | zero => intro j hj; omega
        | succ n ihn =>
          intro j hj hjm hjf
          by_cases hlow : ∃ k : Nat, k < j ∧ listed.getD k false = false
          · obtain ⟨k, hk, hkf⟩ := hlow
            exact ihn k (by omega) (by omega) hkf
          · refine ⟨j, mem_ready.2 ⟨?_, ?_⟩⟩
            · have hjl : j < listed.size := by rw [h.ls]; omega
              simp [hjl] at hjf ⊢
              exact hjf
            · have hjo : j < ops.size := by omega
              refine ⟨ops[j], Array.getElem?_eq_getElem hjo, fun e he hb => ?_⟩
              have hw := (List.all_eq_true.1 h6) j (List.mem_range.2 hjo)
              rw [Array.getElem?_eq_getElem hjo] at hw
              simp only at hw
              have hon := (Array.all_eq_true_iff_forall_mem.1 hw) e he
              rw [hb] at hon
              simp only [Bool.not_true, Bool.false_or, decide_eq_true_eq] at hon
              cases hv : listed.getD e.on false with
              | true => rfl
              | false => exact (hlow ⟨e.on, hon, hv⟩).elim
      refine ⟨fun hrd => ?_, fun i hi => ?_⟩
      · obtain ⟨i, hi⟩ := progress (j0 + 1) j0 (by omega) hj0 hj0f
        rw [hrd] at hi; cases hi
      · obtain ⟨hf, o, ho, hall⟩ := mem_ready.1 hi
        have him := tailno i hi
        have hil : i < listed.size := by rw [h.ls]; exact (Array.getElem?_eq_some_iff.1 ho).1
        have hli : listed.toList[i]? = some false := by
          simp [hil] at hf ⊢
          exact hf
        have hst := hstep i o ho him a w h.inv h.keep h.defs (fun j hw hj => h.done j hj (by
          unfold waitsFor at hw
          rw [ho] at hw
          simp only [Array.any_eq_true', Bool.and_eq_true, beq_iff_eq] at hw
          obtain ⟨e, he, hb, hon⟩ := hw
          rw [← hon]; exact hall e he hb))
          (wpAny P .any ops Q fuel (listed.setIfInBounds i true))
          (fun v w' hv hr hp => ih _ _ _ (by
            have := count_set_true listed.toList i hli
            rw [Array.toList_setIfInBounds]
            omega) (rj_step hok hR ho him h v w' hv hr hp))
        unfold wpOp
        rw [ho]
        simp only
        split
        · rename_i hwt
          rw [if_pos hwt] at hst
          exact .inl hst
        · rename_i hwt
          rw [if_neg hwt] at hst
          exact hst
theorem wp_region_rj {id : Nat} {w : World} (hm : P.follows .mixedOrders = true) (m : Nat) (inv : World → Prop) (R : World → World → Prop) (post : Nat → Value → World → Prop) (hok : regOk ops a0.tmps.size m = true) (hR : ∀ (j : Nat) (v : Value) (w w' : World), post j v w → R w w' → post j v w')
    (hi0 : inv { w with drawn := w.drawn + 1 })
    (hstep : ∀ (i : Nat) (o : Oper), ops[i]? = some o → i < m → ∀ (a : Act) (w : World), inv w → (∀ (t : Nat), isDst ops t = false → a.tmps.getD t undef = a0.tmps.getD t undef) → a.defers = a0.defers → (∀ (j : Nat), waitsFor ops i j = true → j < m → post j (a.tmps.getD (slotOf ops j) undef) w) →
      ∀ (K : Act → World → Prop), (∀ (v : Value) (w' : World), inv w' → R w w' → post i (match o.dst with | none => undef | some _ => v) w' → K (a.put o.dst v) w') → if Region.wanted o (yielded ops a.tmps) = true then o.wp P a w K Q else K (a.put o.dst undef) w)
    (hend : ∀ (a : Act) (w : World), inv w → a.tmps.size = a0.tmps.size → a.defers = a0.defers → (∀ (t : Nat), isDst ops t = false → a.tmps.getD t undef = a0.tmps.getD t undef) → (∀ (j : Nat), j < m → post j (a.tmps.getD (slotOf ops j) undef) w) → wpAny P .any ops Q (ops.size - m) (maskOf ops.size m) a w) :
    (Code.region id ops true).wp P Q a0 w := by
  refine wp_region_any hm (wpAny_rj (m := m) (inv := inv) (R := R) (post := post) hok hR hstep hend _ _ _ _ (by simp) ?_)
  refine ⟨hi0, rfl, rfl, fun _ _ => rfl, fun j hj hl => ?_, by simp, fun j hj hjs => ?_⟩
  · rcases Nat.lt_or_ge j ops.size with h | h
    · simp [h] at hl
    · simp [Nat.not_lt.2 h] at hl
  · simp [hjs]
/-- All have come. -/
theorem rj_all {a : Act} {w : World} (hm : m = ops.size) (hr : Region.ready .any ops (maskOf ops.size m) = []) (h : Q .normal a w) : wpAny P .any ops Q (ops.size - m) (maskOf ops.size m) a w := by
  rw [hm, Nat.sub_self] at *
  exact ⟨hr, h⟩
/-- The last one has not: a store. -/
theorem rj_last {a : Act} {w : World} {o : Oper} (hm : ops.size = m + 1) (ho : ops[m]? = some o) (hr : Region.ready .any ops (maskOf ops.size m) = [m]) (hg : o.guard = none) (hd : o.dst = none) (hr2 : Region.ready .any ops ((maskOf ops.size m).setIfInBounds m true) = []) (h : o.wp P a w (fun a' w' => Q .normal a' w') Q) : wpAny P .any ops Q (ops.size - m) (maskOf ops.size m) a w := by
  rw [show ops.size - m = 0 + 1 by omega]
  refine ⟨fun h0 => (by rw [hr] at h0; cases h0), fun i hi => ?_⟩
  rw [hr] at hi
  obtain rfl : i = m := by simpa using hi
  unfold wpOp
  rw [ho]
  simp only
  rw [if_pos (by unfold Region.wanted; rw [hg])]
  exact .inl (Oper.wp_mono (fun a' w' h' => ⟨hr2, h'⟩) h)
theorem yielded_of {t : Array Value} {j s : Nat} {o : Oper} {b : Bool} (ho : ops[j]? = some o) (hd : o.dst = some s) (h : t.getD s undef = .bool b) : yielded ops t j = some b := by
  have hs : t[s]? = some (.bool b) := by
    rw [Array.getD_eq_getD_getElem?] at h
    cases hq : t[s]? with
    | none => rw [hq] at h; simp [undef] at h
    | some v => rw [hq] at h; simp at h; rw [h]
  unfold yielded
  rw [ho]
  simp [hd, hs]
theorem wanted_yes {t : Array Value} {o o' : Oper} {j s : Nat} {b : Bool} (hg : o.guard = some (j, b)) (ho : ops[j]? = some o') (hd : o'.dst = some s) (h : t.getD s undef = .bool b) : Region.wanted o (yielded ops t) = true := by
  unfold Region.wanted
  rw [hg]
  simp only
  rw [yielded_of ho hd h]
  simp
theorem wanted_no {t : Array Value} {o o' : Oper} {j s : Nat} {b c : Bool} (hg : o.guard = some (j, c)) (ho : ops[j]? = some o') (hd : o'.dst = some s) (h : t.getD s undef = .bool b) (hne : b ≠ c) : ¬ Region.wanted o (yielded ops t) = true := by
  unfold Region.wanted
  rw [hg]
  simp only
  rw [yielded_of ho hd h]
  simpa using hne
theorem wanted_undef {t : Array Value} {o o' : Oper} {j s : Nat} {c : Bool} (hg : o.guard = some (j, c)) (ho : ops[j]? = some o') (hd : o'.dst = some s) (h : t.getD s undef = undef) : ¬ Region.wanted o (yielded ops t) = true := by
  unfold Region.wanted
  rw [hg]
  simp only
  have : yielded ops t j = none := by
    unfold yielded
    rw [ho]
    simp only [Option.bind_some, hd]
    rw [Array.getD_eq_getD_getElem?] at h
    cases hq : t[s]? with
    | none => rfl
    | some v => rw [hq] at h; simp at h; subst h; rfl
  rw [this]
  simp
/-- The last one has not. -/
theorem rj_lastv {a : Act} {w : World} {o : Oper} (hm : ops.size = m + 1) (ho : ops[m]? = some o) (hr : Region.ready .any ops (maskOf ops.size m) = [m]) (hg : o.guard = none) (hr2 : Region.ready .any ops ((maskOf ops.size m).setIfInBounds m true) = []) (h : o.wp P a w (fun a' w' => Q .normal a' w') Q) : wpAny P .any ops Q (ops.size - m) (maskOf ops.size m) a w := by
  rw [show ops.size - m = 0 + 1 by omega]
  refine ⟨fun h0 => (by rw [hr] at h0; cases h0), fun i hi => ?_⟩
  rw [hr] at hi
  obtain rfl : i = m := by simpa using hi
  unfold wpOp
  rw [ho]
  simp only
  rw [if_pos (by unfold Region.wanted; rw [hg])]
  exact .inl (Oper.wp_mono (fun a' w' h' => ⟨hr2, h'⟩) h)
/-- The last two have not: one behind the other. -/
theorem rj_last2 {a : Act} {w : World} {o1 o2 : Oper} (hm : ops.size = m + 2) (ho1 : ops[m]? = some o1) (ho2 : ops[m + 1]? = some o2) (hr : Region.ready .any ops (maskOf ops.size m) = [m]) (hg1 : o1.guard = none) (hg2 : o2.guard = none)
    (hr1 : Region.ready .any ops ((maskOf ops.size m).setIfInBounds m true) = [m + 1])
    (hr3 : Region.ready .any ops (((maskOf ops.size m).setIfInBounds m true).setIfInBounds (m + 1) true) = [])
    (h1 : o1.wp P a w (fun a' w' => o2.wp P a' w' (fun a' w' => Q .normal a' w') Q) Q) : wpAny P .any ops Q (ops.size - m) (maskOf ops.size m) a w := by
  rw [show ops.size - m = 1 + 1 by omega]
  refine ⟨fun h0 => (by rw [hr] at h0; cases h0), fun i hi => ?_⟩
  rw [hr] at hi
  obtain rfl : i = m := by simpa using hi
  unfold wpOp
  rw [ho1]
  simp only
  rw [if_pos (by unfold Region.wanted; rw [hg1])]
  refine .inl (Oper.wp_mono (fun a' w' h' => ?_) h1)
  refine ⟨fun h0 => (by rw [hr1] at h0; cases h0), fun j hj => ?_⟩
  rw [hr1] at hj
  obtain rfl : j = _ + 1 := by simpa using hj
  unfold wpOp
  rw [ho2]
  simp only
  rw [if_pos (by unfold Region.wanted; rw [hg2])]
  exact .inl (Oper.wp_mono (fun a2 w2 h2 => ⟨hr3, h2⟩) h')
/-- The slots as a written-out row. -/
theorem act_lit (a : Act) (n : Nat) (h : a.tmps.size = n) : a = ⟨((List.range n).map fun i => a.tmps.getD i undef).toArray, a.defers⟩ := by
  obtain ⟨t, d⟩ := a
  simp only at h ⊢
  congr 1
  apply Array.ext
  · simp [h]
  · intro i h1 h2
    simp [h1]
/-- .. under letters. -/
theorem act_let (a : Act) (n : Nat) (h : a.tmps.size = n) : ∃ f : Nat → Value, a = ⟨((List.range n).map f).toArray, a.defers⟩ ∧ ∀ i, f i = a.tmps.getD i undef := ⟨fun i => a.tmps.getD i undef, act_lit a n h, fun _ => rfl⟩
end
end Go.Proofs.Ytfnbpmkbjbibkaa

namespace Go.Proofs.Ytfnbpmkbjbibkaa
open Go
set_option linter.unusedVariables false
section
variable {P : Program} {ops : Array Oper} {Q : Exit → Act → World → Prop} {a0 : Act} {m : Nat} {inv : World → Prop} {R : Nat → World → World → Prop} {kills : Nat → Nat → Bool} {post : Nat → Value → World → Prop}
/-- Does operation i wait for j, by itself or by others? -/
def waitsT (ops : Array Oper) : Nat → Nat → Nat → Bool
  | 0, i, j => waitsFor ops i j
  | n + 1, i, j => waitsFor ops i j || (List.range ops.size).any fun k => waitsFor ops i k && waitsT ops n k j
theorem waitsT_listed {listed : Array Bool} (cl : ∀ j, listed.getD j false = true → ∀ k, waitsFor ops j k = true → listed.getD k false = true) : ∀ (n i j : Nat), (∀ k, waitsFor ops i k = true → listed.getD k false = true) → waitsT ops n i j = true → listed.getD j false = true
  | 0, i, j, hd, h => hd j h
  | n + 1, i, j, hd, h => by
    simp only [waitsT, Bool.or_eq_true] at h
    rcases h with h | h
    · exact hd j h
    · obtain ⟨k, _, hk⟩ := List.any_eq_true.1 h
      simp only [Bool.and_eq_true] at hk
      exact waitsT_listed cl n k j (cl k (hd k hk.1)) hk.2
def regOkT (ops : Array Oper) (n m : Nat) : Bool :=
  decide (n < 1000000000) && ops.all (fun o => match o.dst with | some t => decide (t < n) | none => true) && decide ((ops.toList.filterMap fun o => o.dst).Nodup) &&
    decide (m ≤ ops.size) && (List.range ops.size).all (fun i => match ops[i]? with | some o => o.after.all fun e => !Region.binds .any e || decide (e.on < i) | none => true) && (List.range ops.size).all (fun i => decide (i < m) || (List.range m).all fun j => waitsT ops 3 i j)
/-- Is the slot written ahead of m? -/
def isDstM (ops : Array Oper) (m t : Nat) : Bool := (ops.toList.take m).any fun o => o.dst == some t
/-- What an operation does away with, by itself or by those it waits for. -/
def dead (ops : Array Oper) (kills : Nat → Nat → Bool) (i j : Nat) : Bool := kills i j || waitsT ops 3 j i || (List.range ops.size).any fun k => waitsFor ops i k && kills k j
structure RJK (kills : Nat → Nat → Bool) (ops : Array Oper) (a0 : Act) (m : Nat) (inv : World → Prop) (post : Nat → Value → World → Prop) (listed : Array Bool) (a : Act) (w : World) : Prop where
  inv : inv w
  size : a.tmps.size = a0.tmps.size
  defs : a.defers = a0.defers
  keep : ∀ t, isDstM ops m t = false → a.tmps.getD t undef = a0.tmps.getD t undef
  done : ∀ j, j < m → listed.getD j false = true → (∀ k, kills k j = true → listed.getD k false = false) → post j (a.tmps.getD (slotOf ops j) undef) w
  ls : listed.size = ops.size
  cl : ∀ j, listed.getD j false = true → ∀ k, waitsFor ops j k = true → listed.getD k false = true
  tl : ∀ j, m ≤ j → j < ops.size → listed.getD j true = false

theorem rjk_step (hok : regOkT ops a0.tmps.size m = true) (hR : ∀ (i j : Nat) (v : Value) (w w' : World), i ≠ j → dead ops kills i j = false → post j v w → R i w w' → post j v w') {listed : Array Bool} {a : Act} {w : World} {i : Nat} {o : Oper} (hi : ops[i]? = some o) (him : i < m)
    (hlf : listed.getD i false = false) (hrdy : ∀ k, waitsFor ops i k = true → listed.getD k false = true) (h : RJK kills ops a0 m inv post listed a w) (v : Value) (w' : World) (hw : inv w') (hr : R i w w') (hp : post i (match o.dst with | none => undef | some _ => v) w') :
    RJK kills ops a0 m inv post (listed.setIfInBounds i true) (a.put o.dst v) w' := by
  simp only [regOkT, Bool.and_eq_true, decide_eq_true_eq] at hok
  obtain ⟨⟨⟨⟨⟨h1, h2⟩, h3⟩, h4⟩, h6⟩, h5⟩ := hok
  have hslot : ∀ (j : Nat) (oj : Oper) (t : Nat), ops[j]? = some oj → oj.dst = some t → t < a0.tmps.size := by
    intro j oj t hj ht
    have := (Array.all_eq_true_iff_forall_mem.1 h2) oj (Array.mem_of_getElem? hj)
    rw [ht] at this
    simpa using this
  have hil : i < listed.size := by rw [h.ls]; exact (Array.getElem?_eq_some_iff.1 hi).1
  refine ⟨hw, ?_, ?_, ?_, ?_, by simp [h.ls], ?_, ?_⟩
  · cases hd : o.dst with
    | none => exact h.size
    | some t => show (a.tmps.setIfInBounds t v).size = _; simp [h.size]
  · cases hd : o.dst with
    | none => exact h.defs
    | some t => exact h.defs
  · intro t ht
    rw [← h.keep t ht]
    cases hd : o.dst with
    | none => rfl
    | some s =>
      rw [putd _ _ _ _ (by rw [h.size]; exact hslot i o s hi hd), if_neg]
      rintro rfl
      have : isDstM ops m t = true := by
        unfold isDstM
        rw [List.any_eq_true]
        refine ⟨o, List.mem_of_getElem? (i := i) ?_, by simp [hd]⟩
        rw [List.getElem?_take_of_lt him]
        simpa using hi
      rw [this] at ht; cases ht
  · intro j hj hl hk
    by_cases hji : j = i
    · subst hji
      have e : (a.put o.dst v).tmps.getD (slotOf ops j) undef = (match o.dst with | none => undef | some _ => v) := by
        cases hd : o.dst with
        | none =>
          rw [slot_none hi hd]
          show a.tmps.getD 1000000000 undef = undef
          have : a.tmps.size ≤ 1000000000 := by rw [h.size]; omega
          simp [Array.getElem?_eq_none this]
        | some t =>
          rw [slot_some hi hd, putd _ _ _ _ (by rw [h.size]; exact hslot j o t hi hd), if_pos rfl]
      rw [e]; exact hp
    · have hl' : listed.getD j false = true := by
        rw [← hl]
        simp [Array.getElem?_setIfInBounds_ne (Ne.symm hji)]
      have hki : kills i j = false := by
        cases hq : kills i j with
        | false => rfl
        | true => have := hk i hq; simp [hil] at this
      have hkk : ∀ k, kills k j = true → listed.getD k false = false := by
        intro k hq
        have h9 := hk k hq
        have hne : i ≠ k := by rintro rfl; rw [hki] at hq; cases hq
        have e9 : (listed.setIfInBounds i true).getD k false = listed.getD k false := by simp [Array.getElem?_setIfInBounds_ne hne]
        rw [e9] at h9; exact h9
      have hdead : dead ops kills i j = false := by
        unfold dead
        have hcl : waitsT ops 3 j i = false := by
          cases hq : waitsT ops 3 j i with
          | false => rfl
          | true => rw [waitsT_listed h.cl 3 j i (h.cl j hl') hq] at hlf; cases hlf
        rw [hki, hcl, Bool.false_or, Bool.false_or]
        cases hq : (List.range ops.size).any fun k => waitsFor ops i k && kills k j with
        | false => rfl
        | true =>
          obtain ⟨k, _, hq2⟩ := List.any_eq_true.1 hq
          simp only [Bool.and_eq_true] at hq2
          have h7 := hrdy k hq2.1
          rw [hkk k hq2.2] at h7; cases h7
      have := hR i _ _ _ _ (Ne.symm hji) hdead (h.done j hj hl' hkk) hr
      have e : (a.put o.dst v).tmps.getD (slotOf ops j) undef = a.tmps.getD (slotOf ops j) undef := by
        cases hd : o.dst with
        | none => rfl
        | some t =>
          rw [putd _ _ _ _ (by rw [h.size]; exact hslot i o t hi hd), if_neg]
          have ht := hslot i o t hi hd
          cases hoj : ops[j]? with
          | none => unfold slotOf; rw [hoj]; simp only; omega
          | some oj =>
            cases hdj : oj.dst with
            | none => rw [slot_none hoj hdj]; omega
            | some s =>
              rw [slot_some hoj hdj]
              rintro rfl
              exact hji (nodup_filterMap_inj (fun o => o.dst) ops.toList h3 j i oj o s (by simpa using hoj) (by simpa using hi) hdj hd)
      rw [e]; exact this
  · intro j hj k hk
    by_cases hji : j = i
    · subst hji
      have h8 := hrdy k hk
      by_cases hkj : k = j
      · subst hkj; simp [hil]
      · rw [← h8]; simp [Array.getElem?_setIfInBounds_ne (Ne.symm hkj)]
    · have hl' : listed.getD j false = true := by
        rw [← hj]
        simp [Array.getElem?_setIfInBounds_ne (Ne.symm hji)]
      have h8 := h.cl j hl' k hk
      by_cases hki : k = i
      · subst hki; simp [hil]
      · rw [← h8]; simp [Array.getElem?_setIfInBounds_ne (Ne.symm hki)]
  · intro j hj hjs
    have := h.tl j hj hjs
    rw [← this]
    simp [Array.getElem?_setIfInBounds_ne (show i ≠ j by omega)]

theorem wpAny_rjk (hok : regOkT ops a0.tmps.size m = true) (hR : ∀ (i j : Nat) (v : Value) (w w' : World), i ≠ j → dead ops kills i j = false → post j v w → R i w w' → post j v w')
    (hstep : ∀ (i : Nat) (o : Oper), ops[i]? = some o → i < m → ∀ (a : Act) (w : World), inv w → (∀ (t : Nat), isDstM ops m t = false → a.tmps.getD t undef = a0.tmps.getD t undef) → a.defers = a0.defers → (∀ (j : Nat), waitsFor ops i j = true → j < m → (∀ k, k ≠ i → kills k j = false) → post j (a.tmps.getD (slotOf ops j) undef) w) →
      ∀ (K : Act → World → Prop), (∀ (v : Value) (w' : World), inv w' → R i w w' → post i (match o.dst with | none => undef | some _ => v) w' → K (a.put o.dst v) w') → if Region.wanted o (yielded ops a.tmps) = true then o.wp P a w K Q else K (a.put o.dst undef) w)
    (hend : ∀ (a : Act) (w : World), inv w → a.tmps.size = a0.tmps.size → a.defers = a0.defers → (∀ (t : Nat), isDstM ops m t = false → a.tmps.getD t undef = a0.tmps.getD t undef) → (∀ (j : Nat), j < m → (∀ k, k < m → kills k j = false) → post j (a.tmps.getD (slotOf ops j) undef) w) → wpAny P .any ops Q (ops.size - m) (maskOf ops.size m) a w) :
    ∀ (fuel : Nat) (listed : Array Bool) (a : Act) (w : World), listed.toList.count false = fuel → RJK kills ops a0 m inv post listed a w → wpAny P .any ops Q fuel listed a w := by
  have hok' := hok
  simp only [regOkT, Bool.and_eq_true, decide_eq_true_eq] at hok'
  obtain ⟨⟨⟨⟨⟨h1, h2⟩, h3⟩, h4⟩, h6⟩, h5⟩ := hok'
  intro fuel
  induction fuel with
  | zero =>
    intro listed a w hc h
    have hall : ∀ (j : Nat), j < ops.size → listed.getD j false = true := by
      intro j hj
      have hjl : j < listed.size := by rw [h.ls]; exact hj
      have : listed[j] ≠ false := by
        intro hf
        have : 0 < listed.toList.count false := List.count_pos_iff.2 (by rw [← hf]; simp)
        omega
      simp [hjl]
      simpa using this
    have hm : m = ops.size := by
      rcases Nat.lt_or_ge m ops.size with hlt | hge
      · have a1 := h.tl m (Nat.le_refl _) hlt
        have a2 := hall m hlt
        have hml : m < listed.size := by rw [h.ls]; exact hlt
        simp [hml] at a1 a2
        rw [a1] at a2; cases a2
      · omega
    have := hend a w h.inv h.size h.defs h.keep       (fun j hj hk => h.done j hj (hall j (by omega)) (fun k hq => by
        rcases Nat.lt_or_ge k m with hkm | hkm
        · rw [hk k hkm] at hq; cases hq
        · rcases Nat.lt_or_ge k ops.size with hks | hks
          · have := h.tl k hkm hks
            have hkl : k < listed.size := by rw [h.ls]; exact hks
            simp [hkl] at this ⊢
            exact this
          · have : listed.size ≤ k := by rw [h.ls]; exact hks
            simp [Array.getElem?_eq_none this]))
    rw [hm, Nat.sub_self] at this
    refine ⟨?_, this.2⟩
    rw [List.eq_nil_iff_forall_not_mem]
    intro j hj
    obtain ⟨hf, o, ho, _⟩ := mem_ready.1 hj
    have hjs := (Array.getElem?_eq_some_iff.1 ho).1
    have a2 := hall j hjs
    have hjl : j < listed.size := by rw [h.ls]; exact hjs
    simp [hjl] at hf a2
    rw [hf] at a2; cases a2
  | succ fuel ih =>
    intro listed a w hc h
    by_cases hd : ∀ (j : Nat), j < m → listed.getD j false = true
    · -- all ahead of m have come
      have hmask : listed = maskOf ops.size m := by
        apply Array.ext
        · simp [maskOf, h.ls]
        · intro j hj1 hj2
          have hjs : j < ops.size := by rw [← h.ls]; exact hj1
          have : (maskOf ops.size m)[j] = decide (j < m) := by simp [maskOf]
          rw [this]
          by_cases hjm : j < m
          · have := hd j hjm
            simp [hj1] at this
            simp [hjm, this]
          · have := h.tl j (by omega) hjs
            simp [hj1] at this
            simp [hjm, this]
      have hcnt : ops.size - m = fuel + 1 := by
        rw [← hc, hmask]
        have : ∀ (n m : Nat), m ≤ n → ((List.range n).map fun i => decide (i < m)).count false = n - m := by
          intro n m hmn
          induction n with
          | zero => simp
          | succ n ihn =>
            rw [List.range_succ, List.map_append, List.count_append]
            rcases Nat.lt_or_ge n m with hlt | hge
            · have : m = n + 1 := by omega
              subst this
              have e : ((List.range n).map fun i => decide (i < n + 1)).count false = 0 := by
                rw [List.count_eq_zero]
                intro hmem
                obtain ⟨x, hx, hx'⟩ := List.mem_map.1 hmem
                have := List.mem_range.1 hx
                simp at hx'; omega
              rw [e]; simp
            · rw [ihn hge]
              have : ¬ n < m := by omega
              simp [this]; omega
        simp [maskOf, this ops.size m h4]
      rw [← hcnt, hmask]
      exact hend a w h.inv h.size h.defs h.keep       (fun j hj hk => h.done j hj (hd j hj) (fun k hq => by
        rcases Nat.lt_or_ge k m with hkm | hkm
        · rw [hk k hkm] at hq; cases hq
        · rcases Nat.lt_or_ge k ops.size with hks | hks
          · have := h.tl k hkm hks
            have hkl : k < listed.size := by rw [h.ls]; exact hks
            simp [hkl] at this ⊢
            exact this
          · have : listed.size ≤ k := by rw [h.ls]; exact hks
            simp [Array.getElem?_eq_none this]))
    · have hex : ∃ j : Nat, j < m ∧ listed.getD j false = false := by
        apply Classical.byContradiction
        intro hn
        apply hd
        intro j hj
        cases hb : listed.getD j false with
        | true => rfl
        | false => exact (hn ⟨j, hj, hb⟩).elim
      obtain ⟨j0, hj0, hj0f⟩ := hex
      have tailno : ∀ (i : Nat), i ∈ Region.ready .any ops listed → i < m := by
        intro i hi
        rcases Nat.lt_or_ge i m with hlt | hge
        · exact hlt
        · exfalso
          obtain ⟨hf, o, ho, hall⟩ := mem_ready.1 hi
          have his := (Array.getElem?_eq_some_iff.1 ho).1
          have hw := (List.all_eq_true.1 h5) i (List.mem_range.2 his)
          simp only [Bool.or_eq_true, decide_eq_true_eq] at hw
          rcases hw with hw | hw
          · omega
          · have hw2 := (List.all_eq_true.1 hw) j0 (List.mem_range.2 hj0)
            have hdir : ∀ k, waitsFor ops i k = true → listed.getD k false = true := fun k hk => by
              unfold waitsFor at hk
              rw [ho] at hk
              simp only [Array.any_eq_true', Bool.and_eq_true, beq_iff_eq] at hk
              obtain ⟨e, he, hb, hon⟩ := hk
              rw [← hon]; exact hall e he hb
            have := waitsT_listed h.cl _ i j0 hdir hw2
            rw [hj0f] at this; cases this
      have progress : ∀ (n j : Nat), j < n → j < m → listed.getD j false = false → ∃ i, i ∈ Region.ready .any ops listed := by
        intro n
        induction n with
        | zero => intro j hj; omega
        | succ n ihn =>
          intro j hj hjm hjf
          by_cases hlow : ∃ k : Nat, k < j ∧ listed.getD k false = false
          · obtain ⟨k, hk, hkf⟩ := hlow
            exact ihn k (by omega) (by omega) hkf
          · refine ⟨j, mem_ready.2 ⟨?_, ?_⟩⟩
            · have hjl : j < listed.size := by rw [h.ls]; omega
              simp [hjl] at hjf ⊢
              exact hjf
            · have hjo : j < ops.size := by omega
              refine ⟨ops[j], Array.getElem?_eq_getElem hjo, fun e he hb => ?_⟩
              have hw := (List.all_eq_true.1 h6) j (List.mem_range.2 hjo)
              rw [Array.getElem?_eq_getElem hjo] at hw
              simp only at hw
              have hon := (Array.all_eq_true_iff_forall_mem.1 hw) e he
              rw [hb] at hon
              simp only [Bool.not_true, Bool.false_or, decide_eq_true_eq] at hon
              cases hv : listed.getD e.on false with
              | true => rfl
              | false => exact (hlow ⟨e.on, hon, hv⟩).elim
      refine ⟨fun hrd => ?_, fun i hi => ?_⟩
      · obtain ⟨i, hi⟩ := progress (j0 + 1) j0 (by omega) hj0 hj0f
        rw [hrd] at hi; cases hi
      · obtain ⟨hf, o, ho, hall⟩ := mem_ready.1 hi
        have him := tailno i hi
        have hil : i < listed.size := by rw [h.ls]; exact (Array.getElem?_eq_some_iff.1 ho).1
        have hli : listed.toList[i]? = some false := by
          simp [hil] at hf ⊢
          exact hf
        have hst := hstep i o ho him a w h.inv h.keep h.defs (fun j hw hj hk => h.done j hj (by
          unfold waitsFor at hw
          rw [ho] at hw
          simp only [Array.any_eq_true', Bool.and_eq_true, beq_iff_eq] at hw
          obtain ⟨e, he, hb, hon⟩ := hw
          rw [← hon]; exact hall e he hb) (fun k hq => by
          by_cases hki : k = i
          · rw [hki]; have hf2 := hf; simp [hil] at hf2 ⊢; exact hf2
          · rw [hk k hki] at hq; cases hq))
          (wpAny P .any ops Q fuel (listed.setIfInBounds i true))
          (fun v w' hv hr hp => ih _ _ _ (by
            have := count_set_true listed.toList i hli
            rw [Array.toList_setIfInBounds]
            omega) (rjk_step hok hR ho him (by have hf2 := hf; simp [hil] at hf2 ⊢; exact hf2) (fun k hw => by
            unfold waitsFor at hw
            rw [ho] at hw
            simp only [Array.any_eq_true', Bool.and_eq_true, beq_iff_eq] at hw
            obtain ⟨e, he, hb, hon⟩ := hw
            rw [← hon]; exact hall e he hb) h v w' hv hr hp))
        unfold wpOp
        rw [ho]
        simp only
        split
        · rename_i hwt
          rw [if_pos hwt] at hst
          exact .inl hst
        · rename_i hwt
          rw [if_neg hwt] at hst
          exact hst
theorem wp_region_rjk {id : Nat} {w : World} (hm : P.follows .mixedOrders = true) (m : Nat) (inv : World → Prop) (R : Nat → World → World → Prop) (kills : Nat → Nat → Bool) (post : Nat → Value → World → Prop) (hok : regOkT ops a0.tmps.size m = true) (hR : ∀ (i j : Nat) (v : Value) (w w' : World), i ≠ j → dead ops kills i j = false → post j v w → R i w w' → post j v w')
    (hi0 : inv { w with drawn := w.drawn + 1 })
    (hstep : ∀ (i : Nat) (o : Oper), ops[i]? = some o → i < m → ∀ (a : Act) (w : World), inv w → (∀ (t : Nat), isDstM ops m t = false → a.tmps.getD t undef = a0.tmps.getD t undef) → a.defers = a0.defers → (∀ (j : Nat), waitsFor ops i j = true → j < m → (∀ k, k ≠ i → kills k j = false) → post j (a.tmps.getD (slotOf ops j) undef) w) →
      ∀ (K : Act → World → Prop), (∀ (v : Value) (w' : World), inv w' → R i w w' → post i (match o.dst with | none => undef | some _ => v) w' → K (a.put o.dst v) w') → if Region.wanted o (yielded ops a.tmps) = true then o.wp P a w K Q else K (a.put o.dst undef) w)
    (hend : ∀ (a : Act) (w : World), inv w → a.tmps.size = a0.tmps.size → a.defers = a0.defers → (∀ (t : Nat), isDstM ops m t = false → a.tmps.getD t undef = a0.tmps.getD t undef) → (∀ (j : Nat), j < m → (∀ k, k < m → kills k j = false) → post j (a.tmps.getD (slotOf ops j) undef) w) → wpAny P .any ops Q (ops.size - m) (maskOf ops.size m) a w) :
    (Code.region id ops true).wp P Q a0 w := by
  refine wp_region_any hm (wpAny_rjk (m := m) (inv := inv) (R := R) (kills := kills) (post := post) hok hR hstep hend _ _ _ _ (by simp) ?_)
  refine ⟨hi0, rfl, rfl, fun _ _ => rfl, fun j hj hl _ => ?_, by simp, fun j hl => ?_, fun j hj hjs => ?_⟩
  · rcases Nat.lt_or_ge j ops.size with h | h
    · simp [h] at hl
    · simp [Nat.not_lt.2 h] at hl
  · rcases Nat.lt_or_ge j ops.size with h | h
    · simp [h] at hl
    · simp [Nat.not_lt.2 h] at hl
  · simp [hjs]
end
end Go.Proofs.Ytfnbpmkbjbibkaa
