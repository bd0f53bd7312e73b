/- A region that draws its order, walked once (RegInv), where an operation may do away with what others have left. -/
import Derived.Test.YtdalboofhckobabRegInv
namespace Go.Proofs.Ytdalboofhckobab
open Go
set_option linter.unusedVariables false
section
variable {P : Program} {ops : Array Oper} {Q : Exit → Act → World → Prop} {a0 : Act} {m : Nat} {inv : World → Prop} {R : Nat → World → World → Prop} {kills : Nat → Nat → Bool} {post : Nat → Value → World → Prop}
/-- Is the slot written ahead of m? -/
def isDstM (ops : Array Oper) (m t : Nat) : Bool := (ops.toList.take m).any fun o => o.dst == some t
/-- What an operation does away with, by itself or by those it waits for. -/
def dead (ops : Array Oper) (kills : Nat → Nat → Bool) (i j : Nat) : Bool := kills i j || waitsFor ops j i || (List.range ops.size).any fun k => waitsFor ops i k && kills k j
structure RJK (kills : Nat → Nat → Bool) (ops : Array Oper) (a0 : Act) (m : Nat) (inv : World → Prop) (post : Nat → Value → World → Prop) (listed : Array Bool) (a : Act) (w : World) : Prop where
  inv : inv w
  size : a.tmps.size = a0.tmps.size
  defs : a.defers = a0.defers
  keep : ∀ t, isDstM ops m t = false → a.tmps.getD t undef = a0.tmps.getD t undef
  done : ∀ j, j < m → listed.getD j false = true → (∀ k, kills k j = true → listed.getD k false = false) → post j (a.tmps.getD (slotOf ops j) undef) w
  ls : listed.size = ops.size
  cl : ∀ j, listed.getD j false = true → ∀ k, waitsFor ops j k = true → listed.getD k false = true
  tl : ∀ j, m ≤ j → j < ops.size → listed.getD j true = false

theorem rjk_step (hok : regOk ops a0.tmps.size m = true) (hR : ∀ (i j : Nat) (v : Value) (w w' : World), i ≠ j → dead ops kills i j = false → post j v w → R i w w' → post j v w') {listed : Array Bool} {a : Act} {w : World} {i : Nat} {o : Oper} (hi : ops[i]? = some o) (him : i < m)
    (hlf : listed.getD i false = false) (hrdy : ∀ k, waitsFor ops i k = true → listed.getD k false = true) (h : RJK kills ops a0 m inv post listed a w) (v : Value) (w' : World) (hw : inv w') (hr : R i w w') (hp : post i (match o.dst with | none => undef | some _ => v) w') :
    RJK kills ops a0 m inv post (listed.setIfInBounds i true) (a.put o.dst v) w' := by
  simp only [regOk, Bool.and_eq_true, decide_eq_true_eq] at hok
  obtain ⟨⟨⟨⟨⟨h1, h2⟩, h3⟩, h4⟩, h6⟩, h5⟩ := hok
  have hslot : ∀ (j : Nat) (oj : Oper) (t : Nat), ops[j]? = some oj → oj.dst = some t → t < a0.tmps.size := by
    intro j oj t hj ht
    have := (Array.all_eq_true_iff_forall_mem.1 h2) oj (Array.mem_of_getElem? hj)
    rw [ht] at this
    simpa using this
  have hil : i < listed.size := by rw [h.ls]; exact (Array.getElem?_eq_some_iff.1 hi).1
  refine ⟨hw, ?_, ?_, ?_, ?_, by simp [h.ls], ?_, ?_⟩
  · cases hd : o.dst with
    | none => exact h.size
    | some t => show (a.tmps.setIfInBounds t v).size = _; simp [h.size]
  · cases hd : o.dst with
    | none => exact h.defs
    | some t => exact h.defs
  · intro t ht
    rw [← h.keep t ht]
    cases hd : o.dst with
    | none => rfl
    | some s =>
      rw [putd _ _ _ _ (by rw [h.size]; exact hslot i o s hi hd), if_neg]
      rintro rfl
      have : isDstM ops m t = true := by
        unfold isDstM
        rw [List.any_eq_true]
        refine ⟨o, List.mem_of_getElem? (i := i) ?_, by simp [hd]⟩
        rw [List.getElem?_take_of_lt him]
        simpa using hi
      rw [this] at ht; cases ht
  · intro j hj hl hk
    by_cases hji : j = i
    · subst hji
      have e : (a.put o.dst v).tmps.getD (slotOf ops j) undef = (match o.dst with | none => undef | some _ => v) := by
        cases hd : o.dst with
        | none =>
          rw [slot_none hi hd]
          show a.tmps.getD 1000000000 undef = undef
          have : a.tmps.size ≤ 1000000000 := by rw [h.size]; omega
          simp [Array.getElem?_eq_none this]
        | some t =>
          rw [slot_some hi hd, putd _ _ _ _ (by rw [h.size]; exact hslot j o t hi hd), if_pos rfl]
      rw [e]; exact hp
    · have hl' : listed.getD j false = true := by
        rw [← hl]
        simp [Array.getElem?_setIfInBounds_ne (Ne.symm hji)]
      have hki : kills i j = false := by
        cases hq : kills i j with
        | false => rfl
        | true => have := hk i hq; simp [hil] at this
      have hkk : ∀ k, kills k j = true → listed.getD k false = false := by
        intro k hq
        have h9 := hk k hq
        have hne : i ≠ k := by rintro rfl; rw [hki] at hq; cases hq
        have e9 : (listed.setIfInBounds i true).getD k false = listed.getD k false := by simp [Array.getElem?_setIfInBounds_ne hne]
        rw [e9] at h9; exact h9
      have hdead : dead ops kills i j = false := by
        unfold dead
        have hcl : waitsFor ops j i = false := by
          cases hq : waitsFor ops j i with
          | false => rfl
          | true => rw [h.cl j hl' i hq] at hlf; cases hlf
        rw [hki, hcl, Bool.false_or, Bool.false_or]
        cases hq : (List.range ops.size).any fun k => waitsFor ops i k && kills k j with
        | false => rfl
        | true =>
          obtain ⟨k, _, hq2⟩ := List.any_eq_true.1 hq
          simp only [Bool.and_eq_true] at hq2
          have h7 := hrdy k hq2.1
          rw [hkk k hq2.2] at h7; cases h7
      have := hR i _ _ _ _ (Ne.symm hji) hdead (h.done j hj hl' hkk) hr
      have e : (a.put o.dst v).tmps.getD (slotOf ops j) undef = a.tmps.getD (slotOf ops j) undef := by
        cases hd : o.dst with
        | none => rfl
        | some t =>
          rw [putd _ _ _ _ (by rw [h.size]; exact hslot i o t hi hd), if_neg]
          have ht := hslot i o t hi hd
          cases hoj : ops[j]? with
          | none => unfold slotOf; rw [hoj]; simp only; omega
          | some oj =>
            cases hdj : oj.dst with
            | none => rw [slot_none hoj hdj]; omega
            | some s =>
              rw [slot_some hoj hdj]
              rintro rfl
              exact hji (nodup_filterMap_inj (fun o => o.dst) ops.toList h3 j i oj o s (by simpa using hoj) (by simpa using hi) hdj hd)
      rw [e]; exact this
  · intro j hj k hk
    by_cases hji : j = i
    · subst hji
      have h8 := hrdy k hk
      by_cases hkj : k = j
      · subst hkj; simp [hil]
      · rw [← h8]; simp [Array.getElem?_setIfInBounds_ne (Ne.symm hkj)]
    · have hl' : listed.getD j false = true := by
        rw [← hj]
        simp [Array.getElem?_setIfInBounds_ne (Ne.symm hji)]
      have h8 := h.cl j hl' k hk
      by_cases hki : k = i
      · subst hki; simp [hil]
      · rw [← h8]; simp [Array.getElem?_setIfInBounds_ne (Ne.symm hki)]
  · intro j hj hjs
    have := h.tl j hj hjs
    rw [← this]
    simp [Array.getElem?_setIfInBounds_ne (show i ≠ j by omega)]

theorem wpAny_rjk (hok : regOk ops a0.tmps.size m = true) (hR : ∀ (i j : Nat) (v : Value) (w w' : World), i ≠ j → dead ops kills i j = false → post j v w → R i w w' → post j v w')
    (hstep : ∀ (i : Nat) (o : Oper), ops[i]? = some o → i < m → ∀ (a : Act) (w : World), inv w → (∀ (t : Nat), isDstM ops m t = false → a.tmps.getD t undef = a0.tmps.getD t undef) → a.defers = a0.defers → (∀ (j : Nat), waitsFor ops i j = true → j < m → (∀ k, k ≠ i → kills k j = false) → post j (a.tmps.getD (slotOf ops j) undef) w) →
      ∀ (K : Act → World → Prop), (∀ (v : Value) (w' : World), inv w' → R i w w' → post i (match o.dst with | none => undef | some _ => v) w' → K (a.put o.dst v) w') → if Region.wanted o (yielded ops a.tmps) = true then o.wp P a w K Q else K (a.put o.dst undef) w)
    (hend : ∀ (a : Act) (w : World), inv w → a.tmps.size = a0.tmps.size → a.defers = a0.defers → (∀ (t : Nat), isDstM ops m t = false → a.tmps.getD t undef = a0.tmps.getD t undef) → (∀ (j : Nat), j < m → (∀ k, k < m → kills k j = false) → post j (a.tmps.getD (slotOf ops j) undef) w) → wpAny P .any ops Q (ops.size - m) (maskOf ops.size m) a w) :
    ∀ (fuel : Nat) (listed : Array Bool) (a : Act) (w : World), listed.toList.count false = fuel → RJK kills ops a0 m inv post listed a w → wpAny P .any ops Q fuel listed a w := by
  have hok' := hok
  simp only [regOk, Bool.and_eq_true, decide_eq_true_eq] at hok'
  obtain ⟨⟨⟨⟨⟨h1, h2⟩, h3⟩, h4⟩, h6⟩, h5⟩ := hok'
  intro fuel
  induction fuel with
  | zero =>
    intro listed a w hc h
    have hall : ∀ (j : Nat), j < ops.size → listed.getD j false = true := by
      intro j hj
      have hjl : j < listed.size := by rw [h.ls]; exact hj
      have : listed[j] ≠ false := by
        intro hf
        have : 0 < listed.toList.count false := List.count_pos_iff.2 (by rw [← hf]; simp)
        omega
      simp [hjl]
      simpa using this
    have hm : m = ops.size := by
      rcases Nat.lt_or_ge m ops.size with hlt | hge
      · have a1 := h.tl m (Nat.le_refl _) hlt
        have a2 := hall m hlt
        have hml : m < listed.size := by rw [h.ls]; exact hlt
        simp [hml] at a1 a2
        rw [a1] at a2; cases a2
      · omega
    have := hend a w h.inv h.size h.defs h.keep       (fun j hj hk => h.done j hj (hall j (by omega)) (fun k hq => by
        rcases Nat.lt_or_ge k m with hkm | hkm
        · rw [hk k hkm] at hq; cases hq
        · rcases Nat.lt_or_ge k ops.size with hks | hks
          · have := h.tl k hkm hks
            have hkl : k < listed.size := by rw [h.ls]; exact hks
            simp [hkl] at this ⊢
            exact this
          · have : listed.size ≤ k := by rw [h.ls]; exact hks
            simp [Array.getElem?_eq_none this]))
    rw [hm, Nat.sub_self] at this
    refine ⟨?_, this.2⟩
    rw [List.eq_nil_iff_forall_not_mem]
    intro j hj
    obtain ⟨hf, o, ho, _⟩ := mem_ready.1 hj
    have hjs := (Array.getElem?_eq_some_iff.1 ho).1
    have a2 := hall j hjs
    have hjl : j < listed.size := by rw [h.ls]; exact hjs
    simp [hjl] at hf a2
    rw [hf] at a2; cases a2
  | succ fuel ih =>
    intro listed a w hc h
    by_cases hd : ∀ (j : Nat), j < m → listed.getD j false = true
    · -- all ahead of m have come
      have hmask : listed = maskOf ops.size m := by
        apply Array.ext
        · simp [maskOf, h.ls]
        · intro j hj1 hj2
          have hjs : j < ops.size := by rw [← h.ls]; exact hj1
          have : (maskOf ops.size m)[j] = decide (j < m) := by simp [maskOf]
          rw [this]
          by_cases hjm : j < m
          · have := hd j hjm
            simp [hj1] at this
            simp [hjm, this]
          · have := h.tl j (by omega) hjs
            simp [hj1] at this
            simp [hjm, this]
      have hcnt : ops.size - m = fuel + 1 := by
        rw [← hc, hmask]
        have : ∀ (n m : Nat), m ≤ n → ((List.range n).map fun i => decide (i < m)).count false = n - m := by
          intro n m hmn
          induction n with
          | zero => simp
          | succ n ihn =>
            rw [List.range_succ, List.map_append, List.count_append]
            rcases Nat.lt_or_ge n m with hlt | hge
            · have : m = n + 1 := by omega
              subst this
              have e : ((List.range n).map fun i => decide (i < n + 1)).count false = 0 := by
                rw [List.count_eq_zero]
                intro hmem
                obtain ⟨x, hx, hx'⟩ := List.mem_map.1 hmem
                have := List.mem_range.1 hx
                simp at hx'; omega
              rw [e]; simp
            · rw [ihn hge]
              have : ¬ n < m := by omega
              simp [this]; omega
        simp [maskOf, this ops.size m h4]
      rw [← hcnt, hmask]
      exact hend a w h.inv h.size h.defs h.keep       (fun j hj hk => h.done j hj (hd j hj) (fun k hq => by
        rcases Nat.lt_or_ge k m with hkm | hkm
        · rw [hk k hkm] at hq; cases hq
        · rcases Nat.lt_or_ge k ops.size with hks | hks
          · have := h.tl k hkm hks
            have hkl : k < listed.size := by rw [h.ls]; exact hks
            simp [hkl] at this ⊢
            exact this
          · have : listed.size ≤ k := by rw [h.ls]; exact hks
            simp [Array.getElem?_eq_none this]))
    · have hex : ∃ j : Nat, j < m ∧ listed.getD j false = false := by
        apply Classical.byContradiction
        intro hn
        apply hd
        intro j hj
        cases hb : listed.getD j false with
        | true => rfl
        | false => exact (hn ⟨j, hj, hb⟩).elim
      obtain ⟨j0, hj0, hj0f⟩ := hex
      have tailno : ∀ (i : Nat), i ∈ Region.ready .any ops listed → i < m := by
        intro i hi
        rcases Nat.lt_or_ge i m with hlt | hge
        · exact hlt
        · exfalso
          obtain ⟨hf, o, ho, hall⟩ := mem_ready.1 hi
          have his := (Array.getElem?_eq_some_iff.1 ho).1
          have hw := (List.all_eq_true.1 h5) i (List.mem_range.2 his)
          simp only [Bool.or_eq_true, decide_eq_true_eq] at hw
          rcases hw with hw | hw
          · omega
          · have hw2 := (List.all_eq_true.1 hw) j0 (List.mem_range.2 hj0)
            unfold waitsFor at hw2
            rw [ho] at hw2
            simp only [Array.any_eq_true', Bool.and_eq_true, beq_iff_eq] at hw2
            obtain ⟨e, he, hb, hon⟩ := hw2
            have := hall e he hb
            rw [hon, hj0f] at this; cases this
      have progress : ∀ (n j : Nat), j < n → j < m → listed.getD j false = false → ∃ i, i ∈ Region.ready .any ops listed := by
        intro n
        induction n with
        | zero => intro j hj; omega
        | succ n ihn =>
          intro j hj hjm hjf
          by_cases hlow : ∃ k : Nat, k < j ∧ listed.getD k false = false
          · obtain ⟨k, hk, hkf⟩ := hlow
            exact ihn k (by omega) (by omega) hkf
          · refine ⟨j, mem_ready.2 ⟨?_, ?_⟩⟩
            · have hjl : j < listed.size := by rw [h.ls]; omega
              simp [hjl] at hjf ⊢
              exact hjf
            · have hjo : j < ops.size := by omega
              refine ⟨ops[j], Array.getElem?_eq_getElem hjo, fun e he hb => ?_⟩
              have hw := (List.all_eq_true.1 h6) j (List.mem_range.2 hjo)
              rw [Array.getElem?_eq_getElem hjo] at hw
              simp only at hw
              have hon := (Array.all_eq_true_iff_forall_mem.1 hw) e he
              rw [hb] at hon
              simp only [Bool.not_true, Bool.false_or, decide_eq_true_eq] at hon
              cases hv : listed.getD e.on false with
              | true => rfl
              | false => exact (hlow ⟨e.on, hon, hv⟩).elim
      refine ⟨fun hrd => ?_, fun i hi => ?_⟩
      · obtain ⟨i, hi⟩ := progress (j0 + 1) j0 (by omega) hj0 hj0f
        rw [hrd] at hi; cases hi
      · obtain ⟨hf, o, ho, hall⟩ := mem_ready.1 hi
        have him := tailno i hi
        have hil : i < listed.size := by rw [h.ls]; exact (Array.getElem?_eq_some_iff.1 ho).1
        have hli : listed.toList[i]? = some false := by
          simp [hil] at hf ⊢
          exact hf
        have hst := hstep i o ho him a w h.inv h.keep h.defs (fun j hw hj hk => h.done j hj (by
          unfold waitsFor at hw
          rw [ho] at hw
          simp only [Array.any_eq_true', Bool.and_eq_true, beq_iff_eq] at hw
          obtain ⟨e, he, hb, hon⟩ := hw
          rw [← hon]; exact hall e he hb) (fun k hq => by
          by_cases hki : k = i
          · rw [hki]; have hf2 := hf; simp [hil] at hf2 ⊢; exact hf2
          · rw [hk k hki] at hq; cases hq))
          (wpAny P .any ops Q fuel (listed.setIfInBounds i true))
          (fun v w' hv hr hp => ih _ _ _ (by
            have := count_set_true listed.toList i hli
            rw [Array.toList_setIfInBounds]
            omega) (rjk_step hok hR ho him (by have hf2 := hf; simp [hil] at hf2 ⊢; exact hf2) (fun k hw => by
            unfold waitsFor at hw
            rw [ho] at hw
            simp only [Array.any_eq_true', Bool.and_eq_true, beq_iff_eq] at hw
            obtain ⟨e, he, hb, hon⟩ := hw
            rw [← hon]; exact hall e he hb) h v w' hv hr hp))
        unfold wpOp
        rw [ho]
        simp only
        split
        · rename_i hwt
          rw [if_pos hwt] at hst
          exact .inl hst
        · rename_i hwt
          rw [if_neg hwt] at hst
          exact hst
theorem wp_region_rjk {id : Nat} {w : World} (hm : P.follows .mixedOrders = true) (m : Nat) (inv : World → Prop) (R : Nat → World → World → Prop) (kills : Nat → Nat → Bool) (post : Nat → Value → World → Prop) (hok : regOk ops a0.tmps.size m = true) (hR : ∀ (i j : Nat) (v : Value) (w w' : World), i ≠ j → dead ops kills i j = false → post j v w → R i w w' → post j v w')
    (hi0 : inv { w with drawn := w.drawn + 1 })
    (hstep : ∀ (i : Nat) (o : Oper), ops[i]? = some o → i < m → ∀ (a : Act) (w : World), inv w → (∀ (t : Nat), isDstM ops m t = false → a.tmps.getD t undef = a0.tmps.getD t undef) → a.defers = a0.defers → (∀ (j : Nat), waitsFor ops i j = true → j < m → (∀ k, k ≠ i → kills k j = false) → post j (a.tmps.getD (slotOf ops j) undef) w) →
      ∀ (K : Act → World → Prop), (∀ (v : Value) (w' : World), inv w' → R i w w' → post i (match o.dst with | none => undef | some _ => v) w' → K (a.put o.dst v) w') → if Region.wanted o (yielded ops a.tmps) = true then o.wp P a w K Q else K (a.put o.dst undef) w)
    (hend : ∀ (a : Act) (w : World), inv w → a.tmps.size = a0.tmps.size → a.defers = a0.defers → (∀ (t : Nat), isDstM ops m t = false → a.tmps.getD t undef = a0.tmps.getD t undef) → (∀ (j : Nat), j < m → (∀ k, k < m → kills k j = false) → post j (a.tmps.getD (slotOf ops j) undef) w) → wpAny P .any ops Q (ops.size - m) (maskOf ops.size m) a w) :
    (Code.region id ops true).wp P Q a0 w := by
  refine wp_region_any hm (wpAny_rjk (m := m) (inv := inv) (R := R) (kills := kills) (post := post) hok hR hstep hend _ _ _ _ (by simp) ?_)
  refine ⟨hi0, rfl, rfl, fun _ _ => rfl, fun j hj hl _ => ?_, by simp, fun j hl => ?_, fun j hj hjs => ?_⟩
  · rcases Nat.lt_or_ge j ops.size with h | h
    · simp [h] at hl
    · simp [Nat.not_lt.2 h] at hl
  · rcases Nat.lt_or_ge j ops.size with h | h
    · simp [h] at hl
    · simp [Nat.not_lt.2 h] at hl
  · simp [hjs]
end
end Go.Proofs.Ytdalboofhckobab
