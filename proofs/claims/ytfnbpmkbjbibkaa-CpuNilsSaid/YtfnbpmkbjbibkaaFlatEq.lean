/- Two values of a type of whole numbers and truths alone are compared: the cells are the same, or not. -/
import Derived.WalkKit
import Derived.Laws.StructEq
import Derived.Laws.Cells
namespace Go.Proofs.Ytfnbpmkbjbibkaa
open Go Go.RowKit
set_option linter.unusedVariables false
set_option linter.unusedSimpArgs false

def fieldKinds (P : Program) (L : TypeId → Option (List (Option IntKind))) : List Field → Nat → Option (List (Option IntKind))
  | [], _ => some []
  | f :: fs, o =>
    if f.name = "_" then none else if f.offset = o then
      match L f.type with
      | none => none
      | some ks => match fieldKinds P L fs (o + ks.length) with
        | none => none
        | some r => some (ks ++ r)
    else none
/-- The kinds of a type's cells; none: the type has others. -/
def kindsOf (P : Program) : Nat → TypeId → Option (List (Option IntKind))
  | 0, _ => none
  | d + 1, t =>
    match P.underlying t with
    | some .bool => some [none]
    | some (.int k) => some [some k]
    | some (.struct fs) =>
      if P.stoodInHeld t then none else
      match fieldKinds P (kindsOf P d) fs.toList 0 with
      | none => none
      | some ks => if (P.info? t).map (·.size) = some ks.length then some ks else none
    | some (.array n e) =>
      match kindsOf P d e with
      | none => none
      | some ks => if (P.info? e).map (·.size) = some ks.length then
          if (P.info? t).map (·.size) = some (n * ks.length) then some (List.replicate n ks).flatten else none
        else none
    | _ => none
def Fit : Option IntKind → Value → Prop
  | none, v => ∃ b, v = .bool b
  | some k, v => ∃ n, v = .int k n
inductive Fits : List (Option IntKind) → List Value → Prop
  | nil : Fits [] []
  | cons {k : Option IntKind} {v : Value} {ks : List (Option IntKind)} {vs : List Value} : Fit k v → Fits ks vs → Fits (k :: ks) (v :: vs)
theorem Fits.len : ∀ {ks : List (Option IntKind)} {vs : List Value}, Fits ks vs → vs.length = ks.length
  | _, _, .nil => rfl
  | _, _, .cons _ h => by simp [h.len]
theorem Fits.append {vs vs' : List Value} : ∀ {ks ks' : List (Option IntKind)}, Fits ks vs → Fits ks' vs' → Fits (ks ++ ks') (vs ++ vs') := by
  intro ks ks' h
  induction h with
  | nil => intro h'; exact h'
  | cons a b ih => intro h'; exact .cons a (ih h')
theorem Fits.split {ks' : List (Option IntKind)} : ∀ (ks : List (Option IntKind)) {vs : List Value}, Fits (ks ++ ks') vs → ∃ a b, vs = a ++ b ∧ Fits ks a ∧ Fits ks' b
  | [], vs, h => ⟨[], vs, rfl, .nil, h⟩
  | k :: ks, _, .cons (v := v) h1 h2 => by
    obtain ⟨a, b, rfl, ha, hb⟩ := Fits.split ks h2
    exact ⟨v :: a, b, rfl, .cons h1 ha, hb⟩
theorem fits_ints (k : IntKind) : ∀ (l : List Int), Fits (List.replicate l.length (some k)) (l.map (Value.int k))
  | [] => .nil
  | x :: l => .cons ⟨x, rfl⟩ (fits_ints k l)
theorem Fits.one {ks : List (Option IntKind)} {vs : List Value} (h : Fits ks vs) : ∀ v ∈ vs, v.oneCell' = true := by
  induction h with
  | nil => intro v hv; cases hv
  | @cons k v ks vs a b ih =>
    intro x hx
    rcases List.mem_cons.1 hx with rfl | hx
    · cases k with
      | none => obtain ⟨_, rfl⟩ := a; rfl
      | some k => obtain ⟨_, rfl⟩ := a; rfl
    · exact ih x hx
/-- A value of a type: its one cell, or all. -/
def valOf (P : Program) (t : TypeId) (cs : List Value) : Value :=
  match P.underlying t with
  | some (.struct _) | some (.array _ _) => .agg cs.toArray
  | _ => cs.headD undef

section
variable {P : Program}
theorem kinds_some {d : Nat} {t : TypeId} {ks : List (Option IntKind)} (h : kindsOf P d t = some ks) : ∃ u, P.underlying t = some u ∧ ((∃ fs, u = .struct fs) ∨ (∃ n e, u = .array n e) ∨ ((∃ k, ks = [k]) ∧ (u = .bool ∨ ∃ k, u = .int k))) := by
  cases d with
  | zero => cases h
  | succ d =>
    unfold kindsOf at h
    split at h
    · rename_i hu; exact ⟨_, hu, .inr (.inr ⟨⟨_, (Option.some.inj h).symm⟩, .inl rfl⟩)⟩
    · rename_i k hu; exact ⟨_, hu, .inr (.inr ⟨⟨_, (Option.some.inj h).symm⟩, .inr ⟨_, rfl⟩⟩)⟩
    · rename_i fs hu; exact ⟨_, hu, .inl ⟨_, rfl⟩⟩
    · rename_i n e hu; exact ⟨_, hu, .inr (.inl ⟨_, _, rfl⟩)⟩
    · cases h
theorem kinds_size {d : Nat} {t : TypeId} {ks : List (Option IntKind)} (h : kindsOf P d t = some ks) (ha : (∃ fs, P.underlying t = some (.struct fs)) ∨ (∃ n e, P.underlying t = some (.array n e))) : (P.info? t).map (·.size) = some ks.length := by
  cases d with
  | zero => cases h
  | succ d =>
    unfold kindsOf at h
    split at h
    · rename_i hu; rcases ha with ⟨_, ha⟩ | ⟨_, _, ha⟩ <;> (rw [hu] at ha; cases ha)
    · rename_i k hu; rcases ha with ⟨_, ha⟩ | ⟨_, _, ha⟩ <;> (rw [hu] at ha; cases ha)
    · rename_i fs hu
      split at h
      · cases h
      · split at h
        · cases h
        · split at h
          · rename_i hs; rw [hs, ← Option.some.inj h]
          · cases h
    · rename_i n e hu
      split at h
      · cases h
      · split at h
        · split at h
          · rename_i hs
            rw [hs, ← Option.some.inj h]
            simp
          · cases h
        · cases h
    · cases h
theorem run_size_of {t : TypeId} {n : Nat} (h : (P.info? t).map (·.size) = some n) (w : World) : (sizeOf t).run P w = .ok n w := by
  cases hi : P.info? t with
  | none => simp [hi] at h
  | some i =>
    simp only [hi, Option.map_some, Option.some.injEq] at h
    simp [sizeOf, typeInfo, hi, h]
/-- A part of a value. -/
theorem run_part_flat {d : Nat} {t : TypeId} {ks : List (Option IntKind)} (h : kindsOf P d t = some ks) (pre xs post : List Value) (o : Nat) (ho : pre.length = o) (hx : Fits ks xs) (w : World) :
    (part t (pre ++ xs ++ post).toArray o).run P w = .ok (valOf P t xs) w := by
  obtain ⟨u, hu, hc⟩ := kinds_some h
  have hag : (∃ fs, P.underlying t = some (.struct fs)) ∨ (∃ n e, P.underlying t = some (.array n e)) → (part t (pre ++ xs ++ post).toArray o).run P w = .ok (.agg xs.toArray) w := by
    intro ha
    have hs := run_size_of (kinds_size h ha) w
    have hia : (isAgg t).run P w = .ok true w := by
      rcases ha with ⟨fs, ha⟩ | ⟨n, e, ha⟩ <;> simp [isAgg, run_underlying ha]
    simp only [part, Sem.run_bind, hia, Result.andThen_ok, if_true, hs, Sem.run_pure]
    congr 2
    apply Array.toList_inj.1
    simp only [Array.toList_extract, List.extract_eq_take_drop, Nat.add_sub_cancel_left]
    rw [List.append_assoc, List.drop_append_of_le_length (by omega), ← ho, List.drop_length, List.nil_append, ← hx.len, List.take_left']
    rfl
  rcases hc with ⟨fs, rfl⟩ | ⟨n, e, rfl⟩ | ⟨⟨k, rfl⟩, hb⟩
  · rw [hag (.inl ⟨_, hu⟩)]
    simp only [valOf, hu]
  · rw [hag (.inr ⟨_, _, hu⟩)]
    simp only [valOf, hu]
  · obtain ⟨v, rfl⟩ : ∃ v, xs = [v] := by
      cases hx with
      | cons a b => cases b; exact ⟨_, rfl⟩
    have hia : (isAgg t).run P w = .ok false w := by
      rcases hb with rfl | ⟨k', rfl⟩ <;> simp [isAgg, run_underlying hu]
    have hg : (pre ++ [v] ++ post).toArray[o]? = some v := by
      rw [List.getElem?_toArray, List.append_assoc, List.getElem?_append_right (by omega), ← ho, Nat.sub_self]
      rfl
    simp only [part, Sem.run_bind, hia, Result.andThen_ok, Bool.false_eq_true, if_false, hg, Sem.run_pure]
    rcases hb with rfl | ⟨k', rfl⟩ <;> simp [valOf, hu]

def EqAns (P : Program) (s : Sem Bool) (w : World) (xs ys : List Value) : Prop := ∃ b, s.run P w = .ok b w ∧ (b = true ↔ xs = ys)

theorem eqFields_flat {d D : Nat} (hd : d ≤ D) (ih : ∀ (t : TypeId) (ks : List (Option IntKind)) (xs ys : List Value) (w : World), kindsOf P d t = some ks → Fits ks xs → Fits ks ys → EqAns P (Op.equalIn D t (valOf P t xs) (valOf P t ys)) w xs ys) :
    ∀ (fs : List Field) (o : Nat) (ks : List (Option IntKind)) (px py xs ys : List Value) (w : World), fieldKinds P (kindsOf P d) fs o = some ks → px.length = o → py.length = o → Fits ks xs → Fits ks ys →
      EqAns P (Op.eqFields D (px ++ xs).toArray (py ++ ys).toArray fs) w xs ys
  | [], o, ks, px, py, xs, ys, w, h, h1, h2, hx, hy => by
    obtain rfl := Option.some.inj h
    cases hx; cases hy
    exact ⟨true, rfl, by simp⟩
  | f :: fs, o, ks, px, py, xs, ys, w, h, h1, h2, hx, hy => by
    unfold fieldKinds at h
    split at h
    · cases h
    · rename_i hne
      split at h
      · rename_i ho
        cases hk : kindsOf P d f.type with
        | none => simp [hk] at h
        | some k1 =>
          simp only [hk] at h
          cases hr : fieldKinds P (kindsOf P d) fs (o + k1.length) with
          | none => simp [hr] at h
          | some r =>
            simp only [hr, Option.some.injEq] at h
            subst h
            obtain ⟨x1, x2, rfl, fx1, fx2⟩ := Fits.split k1 hx
            obtain ⟨y1, y2, rfl, fy1, fy2⟩ := Fits.split k1 hy
            have e1 := run_part_flat hk px x1 x2 o h1 fx1
            have e2 := run_part_flat hk py y1 y2 o h2 fy1
            obtain ⟨b, hb, hb'⟩ := ih f.type k1 x1 y1 w hk fx1 fy1
            obtain ⟨c, hc, hc'⟩ := eqFields_flat hd ih fs (o + k1.length) r (px ++ x1) (py ++ y1) x2 y2 w hr (by simp [h1, fx1.len]) (by simp [h2, fy1.len]) fx2 fy2
            rw [List.append_assoc] at e1 e2 hc
            rw [List.append_assoc] at hc
            unfold EqAns Op.eqFields
            simp only [hne, ne_eq, not_false_eq_true, if_true, Sem.run_bind, ho, e1, e2, Result.andThen_ok, hb]
            have hl : x1.length = y1.length := by rw [fx1.len, fy1.len]
            cases b with
            | false =>
              refine ⟨false, by simp, ?_⟩
              constructor
              · intro h; cases h
              · intro h
                exact absurd (hb'.2 (List.append_inj_left h hl)) (by simp)
            | true =>
              obtain rfl := hb'.1 rfl
              refine ⟨c, by simpa using hc, ?_⟩
              rw [hc']
              simp
      · cases h

theorem array_flat {d D : Nat} (ih : ∀ (t : TypeId) (ks : List (Option IntKind)) (xs ys : List Value) (w : World), kindsOf P d t = some ks → Fits ks xs → Fits ks ys → EqAns P (Op.equalIn D t (valOf P t xs) (valOf P t ys)) w xs ys)
    (e : TypeId) (ks : List (Option IntKind)) (hk : kindsOf P d e = some ks) (w : World) (F : Nat → Sem (ForInStep (Option Bool × Unit)))
    (XS YS : List Value)
    (hF : ∀ i, F i = (do
        let a ← part e XS.toArray (i * ks.length)
        let b ← part e YS.toArray (i * ks.length)
        let r ← Op.equalIn D e a b
        if (!r) = true then pure (.done (some false, ())) else pure (.yield (none, ())))) :
    ∀ (n i : Nat) (px py xs ys : List Value), XS = px ++ xs → YS = py ++ ys → px.length = i * ks.length → py.length = i * ks.length → Fits (List.replicate n ks).flatten xs → Fits (List.replicate n ks).flatten ys →
      ∃ b : Option Bool, (forIn (List.range' i n 1) ((none, ()) : Option Bool × Unit) (fun i _ => F i)).run P w = .ok (b, ()) w ∧ (b = none ∨ b = some false) ∧ (b = none ↔ xs = ys)
  | 0, i, px, py, xs, ys, e1, e2, h1, h2, hx, hy => by
    cases hx; cases hy
    exact ⟨none, by simp, .inl rfl, by simp⟩
  | n + 1, i, px, py, xs, ys, e1, e2, h1, h2, hx, hy => by
    rw [List.replicate_succ, List.flatten_cons] at hx hy
    obtain ⟨x1, x2, rfl, fx1, fx2⟩ := Fits.split ks hx
    obtain ⟨y1, y2, rfl, fy1, fy2⟩ := Fits.split ks hy
    have p1 := run_part_flat hk px x1 x2 _ h1 fx1
    have p2 := run_part_flat hk py y1 y2 _ h2 fy1
    obtain ⟨b, hb, hb'⟩ := ih e ks x1 y1 w hk fx1 fy1
    obtain ⟨c, hc, hcc, hc'⟩ := array_flat ih e ks hk w F XS YS hF n (i + 1) (px ++ x1) (py ++ y1) x2 y2 (by rw [e1, List.append_assoc]) (by rw [e2, List.append_assoc]) (by simp [h1, fx1.len, Nat.succ_mul]) (by simp [h2, fy1.len, Nat.succ_mul]) fx2 fy2
    rw [List.append_assoc, ← e1] at p1
    rw [List.append_assoc, ← e2] at p2
    have hl : x1.length = y1.length := by rw [fx1.len, fy1.len]
    rw [List.range'_succ]
    simp only [List.forIn_cons, hF, Sem.run_bind, p1, p2, Result.andThen_ok, hb]
    cases b with
    | false =>
      refine ⟨some false, by simp, .inr rfl, ?_⟩
      constructor
      · intro h; cases h
      · intro h
        exact absurd (hb'.2 (List.append_inj_left h hl)) (by simp)
    | true =>
      obtain rfl := hb'.1 rfl
      refine ⟨c, by simpa [hF] using hc, hcc, ?_⟩
      rw [hc']
      simp

theorem equalIn_flat : ∀ (d D : Nat) (t : TypeId) (ks : List (Option IntKind)) (xs ys : List Value) (w : World), d ≤ D → kindsOf P d t = some ks → Fits ks xs → Fits ks ys → EqAns P (Op.equalIn D t (valOf P t xs) (valOf P t ys)) w xs ys
  | 0, D, t, ks, xs, ys, w, hD, h, hx, hy => by cases h
  | d + 1, 0, t, ks, xs, ys, w, hD, h, hx, hy => by omega
  | d + 1, D + 1, t, ks, xs, ys, w, hD, h, hx, hy => by
    have ih := fun t ks xs ys w => equalIn_flat d D t ks xs ys w (by omega)
    unfold kindsOf at h
    split at h
    · rename_i hu
      obtain rfl := Option.some.inj h
      cases hx with
      | cons a b => cases b; obtain ⟨a, rfl⟩ := a; cases hy with
        | cons c b => cases b; obtain ⟨c, rfl⟩ := c; exact ⟨a == c, by simp [valOf, hu, run_equalIn_bool' w D t a c hu], by simp⟩
    · rename_i k hu
      obtain rfl := Option.some.inj h
      cases hx with
      | cons a b => cases b; obtain ⟨a, rfl⟩ := a; cases hy with
        | cons c b => cases b; obtain ⟨c, rfl⟩ := c; exact ⟨a == c, by simp [valOf, hu, run_equalIn_int w D t k k a c hu], by simp⟩
    · rename_i fs hu
      split at h
      · cases h
      · rename_i hst
        split at h
        · cases h
        · rename_i ks' hf
          split at h
          · obtain rfl := Option.some.inj h
            have hfs : P.fieldsOf t = fs := by simp [Program.fieldsOf, hu]
            have := eqFields_flat (by omega) ih fs.toList 0 ks' [] [] xs ys w hf rfl rfl hx hy
            obtain ⟨b, hb, hb'⟩ := this
            refine ⟨b, ?_, hb'⟩
            have hv : ∀ cs, valOf P t cs = .agg cs.toArray := fun cs => by simp [valOf, hu]
            rw [hv, hv, run_equalIn_struct w D t _ _ (by rw [hfs]; exact hu) (by simpa using hst), hfs]
            simpa using hb
          · cases h
    · rename_i n e hu
      split at h
      · cases h
      · rename_i ks' hk
        split at h
        · rename_i hs
          split at h
          · obtain rfl := Option.some.inj h
            have hv : ∀ cs, valOf P t cs = .agg cs.toArray := fun cs => by simp [valOf, hu]
            obtain ⟨b, hb, hbb, hb'⟩ := array_flat ih e ks' hk w _ xs ys (fun i => rfl) n 0 [] [] xs ys rfl rfl (by simp) (by simp) hx hy
            rw [hv, hv]
            refine ⟨b.isNone, ?_, by rw [← hb']; cases b <;> simp⟩
            rw [Op.equalIn]
            simp only [Sem.run_bind, run_underlying hu, Result.andThen_ok, run_size_of hs, Std.Legacy.Range.forIn_eq_forIn_range', Std.Legacy.Range.size, Nat.sub_zero, Nat.add_sub_cancel, Nat.div_one]
            rw [hb]
            rcases hbb with rfl | rfl <;> simp
          · cases h
        · cases h
    · cases h

theorem valOf_agg {t : TypeId} (h : (match P.underlying t with | some (.struct _) | some (.array _ _) => true | _ => false) = true) (cs : List Value) : valOf P t cs = .agg cs.toArray := by
  unfold valOf
  revert h
  split <;> intro h
  · rfl
  · rfl
  · cases h
theorem run_eql_flat {t : TypeId} {ks : List (Option IntKind)} {xs ys : List Value} (w : World) (hk : kindsOf P 20 t = some ks) (ha : (match P.underlying t with | some (.struct _) | some (.array _ _) => true | _ => false) = true) (hx : Fits ks xs) (hy : Fits ks ys) :
    ∃ b, (binOp .eql t (.agg xs.toArray) (.agg ys.toArray)).run P w = .ok (.bool b) w ∧ (binOp .neq t (.agg xs.toArray) (.agg ys.toArray)).run P w = .ok (.bool (!b)) w ∧ (b = true ↔ xs = ys) := by
  obtain ⟨b, hb, hb'⟩ := equalIn_flat 20 10000 t ks xs ys w (by decide) hk hx hy
  rw [valOf_agg ha, valOf_agg ha] at hb
  exact ⟨b, by rw [run_eql_struct, hb]; rfl, by rw [run_neq_struct, hb]; rfl, hb'⟩
/-- Compared: is it the same? -/
theorem wp_eql_flat {o : Oper} {a : Act} {w : World} {K : Act → World → Prop} {Q : Exit → Act → World → Prop} (t yt : TypeId) (x y : Operand) (ho : o.op = .binOp .eql t x y yt) (ks : List (Option IntKind)) (hk : kindsOf P 20 t = some ks) (ha : (match P.underlying t with | some (.struct _) | some (.array _ _) => true | _ => false) = true)
    (hm : P.eqGuardType P.depth t = false) (xs ys : List Value) (hx : a.eval x = .agg xs.toArray) (hy : a.eval y = .agg ys.toArray) (fx : Fits ks xs) (fy : Fits ks ys) (h : ∀ b, (b = true ↔ xs = ys) → K (a.put o.dst (.bool b)) w) : o.wp P a w K Q := by
  obtain ⟨b, hb, _, hb'⟩ := run_eql_flat w hk ha fx fy
  unfold Oper.wp execOp
  simp only [ho, hx, hy, Sem.run_bind, run_eqGuard_agg w .eql t x y _ _ hm, Result.andThen_ok, hb]
  exact h b hb'
theorem wp_neq_flat {o : Oper} {a : Act} {w : World} {K : Act → World → Prop} {Q : Exit → Act → World → Prop} (t yt : TypeId) (x y : Operand) (ho : o.op = .binOp .neq t x y yt) (ks : List (Option IntKind)) (hk : kindsOf P 20 t = some ks) (ha : (match P.underlying t with | some (.struct _) | some (.array _ _) => true | _ => false) = true)
    (hm : P.eqGuardType P.depth t = false) (xs ys : List Value) (hx : a.eval x = .agg xs.toArray) (hy : a.eval y = .agg ys.toArray) (fx : Fits ks xs) (fy : Fits ks ys) (h : ∀ b, (b = true ↔ xs = ys) → K (a.put o.dst (.bool (!b))) w) : o.wp P a w K Q := by
  obtain ⟨b, _, hb, hb'⟩ := run_eql_flat w hk ha fx fy
  unfold Oper.wp execOp
  simp only [ho, hx, hy, Sem.run_bind, run_eqGuard_agg w .neq t x y _ _ hm, Result.andThen_ok, hb]
  exact h b hb'
theorem wpList_eql_flat {ops : Array Oper} {Q : Exit → Act → World → Prop} {rest : List Oper} {o : Oper} {a : Act} {w : World} (hgd : o.guard = none) (t yt : TypeId) (x y : Operand) (ho : o.op = .binOp .eql t x y yt) (ks : List (Option IntKind)) (hk : kindsOf P 20 t = some ks) (ha : (match P.underlying t with | some (.struct _) | some (.array _ _) => true | _ => false) = true)
    (hm : P.eqGuardType P.depth t = false) (xs ys : List Value) (hx : a.eval x = .agg xs.toArray) (hy : a.eval y = .agg ys.toArray) (fx : Fits ks xs) (fy : Fits ks ys) (h : ∀ b, (b = true ↔ xs = ys) → wpList P ops Q rest (a.put o.dst (.bool b)) w) : wpList P ops Q (o :: rest) a w :=
  wpList_plain hgd fun _ hK => wp_eql_flat t yt x y ho ks hk ha hm xs ys hx hy fx fy fun b hb => hK _ _ (h b hb)
theorem wpList_neq_flat {ops : Array Oper} {Q : Exit → Act → World → Prop} {rest : List Oper} {o : Oper} {a : Act} {w : World} (hgd : o.guard = none) (t yt : TypeId) (x y : Operand) (ho : o.op = .binOp .neq t x y yt) (ks : List (Option IntKind)) (hk : kindsOf P 20 t = some ks) (ha : (match P.underlying t with | some (.struct _) | some (.array _ _) => true | _ => false) = true)
    (hm : P.eqGuardType P.depth t = false) (xs ys : List Value) (hx : a.eval x = .agg xs.toArray) (hy : a.eval y = .agg ys.toArray) (fx : Fits ks xs) (fy : Fits ks ys) (h : ∀ b, (b = true ↔ xs = ys) → wpList P ops Q rest (a.put o.dst (.bool (!b))) w) : wpList P ops Q (o :: rest) a w :=
  wpList_plain hgd fun _ hK => wp_neq_flat t yt x y ho ks hk ha hm xs ys hx hy fx fy fun b hb => hK _ _ (h b hb)
/-- A whole value is loaded, wherever it lies. -/
theorem run_loadVar_at (w : World) (ad : Addr) (ty : TypeId) (cs : List Value) (hc : ∀ j v, cs[j]? = some v → w.cell? (ad.add j) = some v) (hd : (match P.underlying ty with | some (.struct _) | some (.array _ _) => true | _ => false) = true) (hi : (P.info? ty).map (·.size) = some cs.length) :
    (loadVar ty ad).run P w = .ok (.agg cs.toArray) w := by
  have hs := run_size_of hi w
  have hia : (isAgg ty).run P w = .ok true w := by
    split at hd
    · rename_i hu; simp [isAgg, run_underlying hu]
    · rename_i hu; simp [isAgg, run_underlying hu]
    · cases hd
  simp only [loadVar, Sem.run_bind, hia, Result.andThen_ok, if_true, hs, run_loadCells_list w ad cs hc, Sem.run_pure]
theorem wp_load_at {op : Oper} {a : Act} {w : World} {K : Act → World → Prop} {Q : Exit → Act → World → Prop} (ty : TypeId) (x : Operand) (ho : op.op = .load ty x) (ad : Addr) (hx : a.eval x = .pointer (some ad)) (cs : List Value)
    (hc : ∀ j v, cs[j]? = some v → w.cell? (ad.add j) = some v) (hd : (match P.underlying ty with | some (.struct _) | some (.array _ _) => true | _ => false) = true) (hi : (P.info? ty).map (·.size) = some cs.length)
    (h : K (a.put op.dst (.agg cs.toArray)) w) : op.wp P a w K Q := by
  unfold Oper.wp execOp
  simp only [ho, hx, Instr.loadAt, Instr.sureAddr, Sem.run_bind, Sem.run_pure, Result.andThen_ok, run_loadVar_at w ad ty cs hc hd hi]
  exact h
theorem wpList_load_at {ops : Array Oper} {Q : Exit → Act → World → Prop} {rest : List Oper} {op : Oper} {a : Act} {w : World} (hgd : op.guard = none) (ty : TypeId) (x : Operand) (ho : op.op = .load ty x) (ad : Addr) (hx : a.eval x = .pointer (some ad)) (cs : List Value)
    (hc : ∀ j v, cs[j]? = some v → w.cell? (ad.add j) = some v) (hd : (match P.underlying ty with | some (.struct _) | some (.array _ _) => true | _ => false) = true) (hi : (P.info? ty).map (·.size) = some cs.length)
    (h : wpList P ops Q rest (a.put op.dst (.agg cs.toArray)) w) : wpList P ops Q (op :: rest) a w :=
  wpList_plain hgd fun _ hK => wp_load_at ty x ho ad hx cs hc hd hi (hK _ _ h)
end
end Go.Proofs.Ytfnbpmkbjbibkaa
