/- What a state's parts are that are compared whole; are two states the same? (PK=PCpuNils) -/
import Derived.WalkKit
import Derived.Laws.StructEq
import Derived.Laws.Cells
import Derived.Test.YtfnbpmkbjbibkaaQCpuSamex
import Derived.Test.YtfnbpmkbjbibkaaCpu
import Derived.Test.YtfnbpmkbjbibkaaRegInvK
import Derived.Laws.Tables
import Derived.Great.BuildSlice
import Derived.Deep.MidRow
namespace Go.Proofs.Ytfnbpmkbjbibkaa
open Go Go.RowKit
set_option linter.unusedVariables false
set_option linter.unusedSimpArgs false

def fieldKinds (P : Program) (L : TypeId → Option (List (Option IntKind))) : List Field → Nat → Option (List (Option IntKind))
  | [], _ => some []
  | f :: fs, o =>
    if f.name = "_" then none else if f.offset = o then
      match L f.type with
      | none => none
      | some ks => match fieldKinds P L fs (o + ks.length) with
        | none => none
        | some r => some (ks ++ r)
    else none
/-- The kinds of a type's cells; none: the type has others. -/
def kindsOf (P : Program) : Nat → TypeId → Option (List (Option IntKind))
  | 0, _ => none
  | d + 1, t =>
    match P.underlying t with
    | some .bool => some [none]
    | some (.int k) => some [some k]
    | some (.struct fs) =>
      if P.stoodInHeld t then none else
      match fieldKinds P (kindsOf P d) fs.toList 0 with
      | none => none
      | some ks => if (P.info? t).map (·.size) = some ks.length then some ks else none
    | some (.array n e) =>
      match kindsOf P d e with
      | none => none
      | some ks => if (P.info? e).map (·.size) = some ks.length then
          if (P.info? t).map (·.size) = some (n * ks.length) then some (List.replicate n ks).flatten else none
        else none
    | _ => none
def Fit : Option IntKind → Value → Prop
  | none, v => ∃ b, v = .bool b
  | some k, v => ∃ n, v = .int k n
inductive Fits : List (Option IntKind) → List Value → Prop
  | nil : Fits [] []
  | cons {k : Option IntKind} {v : Value} {ks : List (Option IntKind)} {vs : List Value} : Fit k v → Fits ks vs → Fits (k :: ks) (v :: vs)
theorem Fits.len : ∀ {ks : List (Option IntKind)} {vs : List Value}, Fits ks vs → vs.length = ks.length
  | _, _, .nil => rfl
  | _, _, .cons _ h => by simp [h.len]
theorem Fits.append {vs vs' : List Value} : ∀ {ks ks' : List (Option IntKind)}, Fits ks vs → Fits ks' vs' → Fits (ks ++ ks') (vs ++ vs') := by
  intro ks ks' h
  induction h with
  | nil => intro h'; exact h'
  | cons a b ih => intro h'; exact .cons a (ih h')
theorem Fits.split {ks' : List (Option IntKind)} : ∀ (ks : List (Option IntKind)) {vs : List Value}, Fits (ks ++ ks') vs → ∃ a b, vs = a ++ b ∧ Fits ks a ∧ Fits ks' b
  | [], vs, h => ⟨[], vs, rfl, .nil, h⟩
  | k :: ks, _, .cons (v := v) h1 h2 => by
    obtain ⟨a, b, rfl, ha, hb⟩ := Fits.split ks h2
    exact ⟨v :: a, b, rfl, .cons h1 ha, hb⟩
theorem fits_ints (k : IntKind) : ∀ (l : List Int), Fits (List.replicate l.length (some k)) (l.map (Value.int k))
  | [] => .nil
  | x :: l => .cons ⟨x, rfl⟩ (fits_ints k l)
theorem Fits.one {ks : List (Option IntKind)} {vs : List Value} (h : Fits ks vs) : ∀ v ∈ vs, v.oneCell' = true := by
  induction h with
  | nil => intro v hv; cases hv
  | @cons k v ks vs a b ih =>
    intro x hx
    rcases List.mem_cons.1 hx with rfl | hx
    · cases k with
      | none => obtain ⟨_, rfl⟩ := a; rfl
      | some k => obtain ⟨_, rfl⟩ := a; rfl
    · exact ih x hx
/-- A value of a type: its one cell, or all. -/
def valOf (P : Program) (t : TypeId) (cs : List Value) : Value :=
  match P.underlying t with
  | some (.struct _) | some (.array _ _) => .agg cs.toArray
  | _ => cs.headD undef

section
variable {P : Program}
theorem kinds_some {d : Nat} {t : TypeId} {ks : List (Option IntKind)} (h : kindsOf P d t = some ks) : ∃ u, P.underlying t = some u ∧ ((∃ fs, u = .struct fs) ∨ (∃ n e, u = .array n e) ∨ ((∃ k, ks = [k]) ∧ (u = .bool ∨ ∃ k, u = .int k))) := by
  cases d with
  | zero => cases h
  | succ d =>
    unfold kindsOf at h
    split at h
    · rename_i hu; exact ⟨_, hu, .inr (.inr ⟨⟨_, (Option.some.inj h).symm⟩, .inl rfl⟩)⟩
    · rename_i k hu; exact ⟨_, hu, .inr (.inr ⟨⟨_, (Option.some.inj h).symm⟩, .inr ⟨_, rfl⟩⟩)⟩
    · rename_i fs hu; exact ⟨_, hu, .inl ⟨_, rfl⟩⟩
    · rename_i n e hu; exact ⟨_, hu, .inr (.inl ⟨_, _, rfl⟩)⟩
    · cases h
theorem kinds_size {d : Nat} {t : TypeId} {ks : List (Option IntKind)} (h : kindsOf P d t = some ks) (ha : (∃ fs, P.underlying t = some (.struct fs)) ∨ (∃ n e, P.underlying t = some (.array n e))) : (P.info? t).map (·.size) = some ks.length := by
  cases d with
  | zero => cases h
  | succ d =>
    unfold kindsOf at h
    split at h
    · rename_i hu; rcases ha with ⟨_, ha⟩ | ⟨_, _, ha⟩ <;> (rw [hu] at ha; cases ha)
    · rename_i k hu; rcases ha with ⟨_, ha⟩ | ⟨_, _, ha⟩ <;> (rw [hu] at ha; cases ha)
    · rename_i fs hu
      split at h
      · cases h
      · split at h
        · cases h
        · split at h
          · rename_i hs; rw [hs, ← Option.some.inj h]
          · cases h
    · rename_i n e hu
      split at h
      · cases h
      · split at h
        · split at h
          · rename_i hs
            rw [hs, ← Option.some.inj h]
            simp
          · cases h
        · cases h
    · cases h
theorem run_size_of {t : TypeId} {n : Nat} (h : (P.info? t).map (·.size) = some n) (w : World) : (sizeOf t).run P w = .ok n w := by
  cases hi : P.info? t with
  | none => simp [hi] at h
  | some i =>
    simp only [hi, Option.map_some, Option.some.injEq] at h
    simp [sizeOf, typeInfo, hi, h]
/-- A part of a value. -/
theorem run_part_flat {d : Nat} {t : TypeId} {ks : List (Option IntKind)} (h : kindsOf P d t = some ks) (pre xs post : List Value) (o : Nat) (ho : pre.length = o) (hx : Fits ks xs) (w : World) :
    (part t (pre ++ xs ++ post).toArray o).run P w = .ok (valOf P t xs) w := by
  obtain ⟨u, hu, hc⟩ := kinds_some h
  have hag : (∃ fs, P.underlying t = some (.struct fs)) ∨ (∃ n e, P.underlying t = some (.array n e)) → (part t (pre ++ xs ++ post).toArray o).run P w = .ok (.agg xs.toArray) w := by
    intro ha
    have hs := run_size_of (kinds_size h ha) w
    have hia : (isAgg t).run P w = .ok true w := by
      rcases ha with ⟨fs, ha⟩ | ⟨n, e, ha⟩ <;> simp [isAgg, run_underlying ha]
    simp only [part, Sem.run_bind, hia, Result.andThen_ok, if_true, hs, Sem.run_pure]
    congr 2
    apply Array.toList_inj.1
    simp only [Array.toList_extract, List.extract_eq_take_drop, Nat.add_sub_cancel_left]
    rw [List.append_assoc, List.drop_append_of_le_length (by omega), ← ho, List.drop_length, List.nil_append, ← hx.len, List.take_left']
    rfl
  rcases hc with ⟨fs, rfl⟩ | ⟨n, e, rfl⟩ | ⟨⟨k, rfl⟩, hb⟩
  · rw [hag (.inl ⟨_, hu⟩)]
    simp only [valOf, hu]
  · rw [hag (.inr ⟨_, _, hu⟩)]
    simp only [valOf, hu]
  · obtain ⟨v, rfl⟩ : ∃ v, xs = [v] := by
      cases hx with
      | cons a b => cases b; exact ⟨_, rfl⟩
    have hia : (isAgg t).run P w = .ok false w := by
      rcases hb with rfl | ⟨k', rfl⟩ <;> simp [isAgg, run_underlying hu]
    have hg : (pre ++ [v] ++ post).toArray[o]? = some v := by
      rw [List.getElem?_toArray, List.append_assoc, List.getElem?_append_right (by omega), ← ho, Nat.sub_self]
      rfl
    simp only [part, Sem.run_bind, hia, Result.andThen_ok, Bool.false_eq_true, if_false, hg, Sem.run_pure]
    rcases hb with rfl | ⟨k', rfl⟩ <;> simp [valOf, hu]

def EqAns (P : Program) (s : Sem Bool) (w : World) (xs ys : List Value) : Prop := ∃ b, s.run P w = .ok b w ∧ (b = true ↔ xs = ys)

theorem eqFields_flat {d D : Nat} (hd : d ≤ D) (ih : ∀ (t : TypeId) (ks : List (Option IntKind)) (xs ys : List Value) (w : World), kindsOf P d t = some ks → Fits ks xs → Fits ks ys → EqAns P (Op.equalIn D t (valOf P t xs) (valOf P t ys)) w xs ys) :
    ∀ (fs : List Field) (o : Nat) (ks : List (Option IntKind)) (px py xs ys : List Value) (w : World), fieldKinds P (kindsOf P d) fs o = some ks → px.length = o → py.length = o → Fits ks xs → Fits ks ys →
      EqAns P (Op.eqFields D (px ++ xs).toArray (py ++ ys).toArray fs) w xs ys
  | [], o, ks, px, py, xs, ys, w, h, h1, h2, hx, hy => by
    obtain rfl := Option.some.inj h
    cases hx; cases hy
    exact ⟨true, rfl, by simp⟩
  | f :: fs, o, ks, px, py, xs, ys, w, h, h1, h2, hx, hy => by
    unfold fieldKinds at h
    split at h
    · cases h
    · rename_i hne
      split at h
      · rename_i ho
        cases hk : kindsOf P d f.type with
        | none => simp [hk] at h
        | some k1 =>
          simp only [hk] at h
          cases hr : fieldKinds P (kindsOf P d) fs (o + k1.length) with
          | none => simp [hr] at h
          | some r =>
            simp only [hr, Option.some.injEq] at h
            subst h
            obtain ⟨x1, x2, rfl, fx1, fx2⟩ := Fits.split k1 hx
            obtain ⟨y1, y2, rfl, fy1, fy2⟩ := Fits.split k1 hy
            have e1 := run_part_flat hk px x1 x2 o h1 fx1
            have e2 := run_part_flat hk py y1 y2 o h2 fy1
            obtain ⟨b, hb, hb'⟩ := ih f.type k1 x1 y1 w hk fx1 fy1
            obtain ⟨c, hc, hc'⟩ := eqFields_flat hd ih fs (o + k1.length) r (px ++ x1) (py ++ y1) x2 y2 w hr (by simp [h1, fx1.len]) (by simp [h2, fy1.len]) fx2 fy2
            rw [List.append_assoc] at e1 e2 hc
            rw [List.append_assoc] at hc
            unfold EqAns Op.eqFields
            simp only [hne, ne_eq, not_false_eq_true, if_true, Sem.run_bind, ho, e1, e2, Result.andThen_ok, hb]
            have hl : x1.length = y1.length := by rw [fx1.len, fy1.len]
            cases b with
            | false =>
              refine ⟨false, by simp, ?_⟩
              constructor
              · intro h; cases h
              · intro h
                exact absurd (hb'.2 (List.append_inj_left h hl)) (by simp)
            | true =>
              obtain rfl := hb'.1 rfl
              refine ⟨c, by simpa using hc, ?_⟩
              rw [hc']
              simp
      · cases h

theorem array_flat {d D : Nat} (ih : ∀ (t : TypeId) (ks : List (Option IntKind)) (xs ys : List Value) (w : World), kindsOf P d t = some ks → Fits ks xs → Fits ks ys → EqAns P (Op.equalIn D t (valOf P t xs) (valOf P t ys)) w xs ys)
    (e : TypeId) (ks : List (Option IntKind)) (hk : kindsOf P d e = some ks) (w : World) (F : Nat → Sem (ForInStep (Option Bool × Unit)))
    (XS YS : List Value)
    (hF : ∀ i, F i = (do
        let a ← part e XS.toArray (i * ks.length)
        let b ← part e YS.toArray (i * ks.length)
        let r ← Op.equalIn D e a b
        if (!r) = true then pure (.done (some false, ())) else pure (.yield (none, ())))) :
    ∀ (n i : Nat) (px py xs ys : List Value), XS = px ++ xs → YS = py ++ ys → px.length = i * ks.length → py.length = i * ks.length → Fits (List.replicate n ks).flatten xs → Fits (List.replicate n ks).flatten ys →
      ∃ b : Option Bool, (forIn (List.range' i n 1) ((none, ()) : Option Bool × Unit) (fun i _ => F i)).run P w = .ok (b, ()) w ∧ (b = none ∨ b = some false) ∧ (b = none ↔ xs = ys)
  | 0, i, px, py, xs, ys, e1, e2, h1, h2, hx, hy => by
    cases hx; cases hy
    exact ⟨none, by simp, .inl rfl, by simp⟩
  | n + 1, i, px, py, xs, ys, e1, e2, h1, h2, hx, hy => by
    rw [List.replicate_succ, List.flatten_cons] at hx hy
    obtain ⟨x1, x2, rfl, fx1, fx2⟩ := Fits.split ks hx
    obtain ⟨y1, y2, rfl, fy1, fy2⟩ := Fits.split ks hy
    have p1 := run_part_flat hk px x1 x2 _ h1 fx1
    have p2 := run_part_flat hk py y1 y2 _ h2 fy1
    obtain ⟨b, hb, hb'⟩ := ih e ks x1 y1 w hk fx1 fy1
    obtain ⟨c, hc, hcc, hc'⟩ := array_flat ih e ks hk w F XS YS hF n (i + 1) (px ++ x1) (py ++ y1) x2 y2 (by rw [e1, List.append_assoc]) (by rw [e2, List.append_assoc]) (by simp [h1, fx1.len, Nat.succ_mul]) (by simp [h2, fy1.len, Nat.succ_mul]) fx2 fy2
    rw [List.append_assoc, ← e1] at p1
    rw [List.append_assoc, ← e2] at p2
    have hl : x1.length = y1.length := by rw [fx1.len, fy1.len]
    rw [List.range'_succ]
    simp only [List.forIn_cons, hF, Sem.run_bind, p1, p2, Result.andThen_ok, hb]
    cases b with
    | false =>
      refine ⟨some false, by simp, .inr rfl, ?_⟩
      constructor
      · intro h; cases h
      · intro h
        exact absurd (hb'.2 (List.append_inj_left h hl)) (by simp)
    | true =>
      obtain rfl := hb'.1 rfl
      refine ⟨c, by simpa [hF] using hc, hcc, ?_⟩
      rw [hc']
      simp

theorem equalIn_flat : ∀ (d D : Nat) (t : TypeId) (ks : List (Option IntKind)) (xs ys : List Value) (w : World), d ≤ D → kindsOf P d t = some ks → Fits ks xs → Fits ks ys → EqAns P (Op.equalIn D t (valOf P t xs) (valOf P t ys)) w xs ys
  | 0, D, t, ks, xs, ys, w, hD, h, hx, hy => by cases h
  | d + 1, 0, t, ks, xs, ys, w, hD, h, hx, hy => by omega
  | d + 1, D + 1, t, ks, xs, ys, w, hD, h, hx, hy => by
    have ih := fun t ks xs ys w => equalIn_flat d D t ks xs ys w (by omega)
    unfold kindsOf at h
    split at h
    · rename_i hu
      obtain rfl := Option.some.inj h
      cases hx with
      | cons a b => cases b; obtain ⟨a, rfl⟩ := a; cases hy with
        | cons c b => cases b; obtain ⟨c, rfl⟩ := c; exact ⟨a == c, by simp [valOf, hu, run_equalIn_bool' w D t a c hu], by simp⟩
    · rename_i k hu
      obtain rfl := Option.some.inj h
      cases hx with
      | cons a b => cases b; obtain ⟨a, rfl⟩ := a; cases hy with
        | cons c b => cases b; obtain ⟨c, rfl⟩ := c; exact ⟨a == c, by simp [valOf, hu, run_equalIn_int w D t k k a c hu], by simp⟩
    · rename_i fs hu
      split at h
      · cases h
      · rename_i hst
        split at h
        · cases h
        · rename_i ks' hf
          split at h
          · obtain rfl := Option.some.inj h
            have hfs : P.fieldsOf t = fs := by simp [Program.fieldsOf, hu]
            have := eqFields_flat (by omega) ih fs.toList 0 ks' [] [] xs ys w hf rfl rfl hx hy
            obtain ⟨b, hb, hb'⟩ := this
            refine ⟨b, ?_, hb'⟩
            have hv : ∀ cs, valOf P t cs = .agg cs.toArray := fun cs => by simp [valOf, hu]
            rw [hv, hv, run_equalIn_struct w D t _ _ (by rw [hfs]; exact hu) (by simpa using hst), hfs]
            simpa using hb
          · cases h
    · rename_i n e hu
      split at h
      · cases h
      · rename_i ks' hk
        split at h
        · rename_i hs
          split at h
          · obtain rfl := Option.some.inj h
            have hv : ∀ cs, valOf P t cs = .agg cs.toArray := fun cs => by simp [valOf, hu]
            obtain ⟨b, hb, hbb, hb'⟩ := array_flat ih e ks' hk w _ xs ys (fun i => rfl) n 0 [] [] xs ys rfl rfl (by simp) (by simp) hx hy
            rw [hv, hv]
            refine ⟨b.isNone, ?_, by rw [← hb']; cases b <;> simp⟩
            rw [Op.equalIn]
            simp only [Sem.run_bind, run_underlying hu, Result.andThen_ok, run_size_of hs, Std.Legacy.Range.forIn_eq_forIn_range', Std.Legacy.Range.size, Nat.sub_zero, Nat.add_sub_cancel, Nat.div_one]
            rw [hb]
            rcases hbb with rfl | rfl <;> simp
          · cases h
        · cases h
    · cases h

theorem valOf_agg {t : TypeId} (h : (match P.underlying t with | some (.struct _) | some (.array _ _) => true | _ => false) = true) (cs : List Value) : valOf P t cs = .agg cs.toArray := by
  unfold valOf
  revert h
  split <;> intro h
  · rfl
  · rfl
  · cases h
theorem run_eql_flat {t : TypeId} {ks : List (Option IntKind)} {xs ys : List Value} (w : World) (hk : kindsOf P 20 t = some ks) (ha : (match P.underlying t with | some (.struct _) | some (.array _ _) => true | _ => false) = true) (hx : Fits ks xs) (hy : Fits ks ys) :
    ∃ b, (binOp .eql t (.agg xs.toArray) (.agg ys.toArray)).run P w = .ok (.bool b) w ∧ (binOp .neq t (.agg xs.toArray) (.agg ys.toArray)).run P w = .ok (.bool (!b)) w ∧ (b = true ↔ xs = ys) := by
  obtain ⟨b, hb, hb'⟩ := equalIn_flat 20 10000 t ks xs ys w (by decide) hk hx hy
  rw [valOf_agg ha, valOf_agg ha] at hb
  exact ⟨b, by rw [run_eql_struct, hb]; rfl, by rw [run_neq_struct, hb]; rfl, hb'⟩
/-- Compared: is it the same? -/
theorem wp_eql_flat {o : Oper} {a : Act} {w : World} {K : Act → World → Prop} {Q : Exit → Act → World → Prop} (t yt : TypeId) (x y : Operand) (ho : o.op = .binOp .eql t x y yt) (ks : List (Option IntKind)) (hk : kindsOf P 20 t = some ks) (ha : (match P.underlying t with | some (.struct _) | some (.array _ _) => true | _ => false) = true)
    (hm : P.eqGuardType P.depth t = false) (xs ys : List Value) (hx : a.eval x = .agg xs.toArray) (hy : a.eval y = .agg ys.toArray) (fx : Fits ks xs) (fy : Fits ks ys) (h : ∀ b, (b = true ↔ xs = ys) → K (a.put o.dst (.bool b)) w) : o.wp P a w K Q := by
  obtain ⟨b, hb, _, hb'⟩ := run_eql_flat w hk ha fx fy
  unfold Oper.wp execOp
  simp only [ho, hx, hy, Sem.run_bind, run_eqGuard_agg w .eql t x y _ _ hm, Result.andThen_ok, hb]
  exact h b hb'
theorem wp_neq_flat {o : Oper} {a : Act} {w : World} {K : Act → World → Prop} {Q : Exit → Act → World → Prop} (t yt : TypeId) (x y : Operand) (ho : o.op = .binOp .neq t x y yt) (ks : List (Option IntKind)) (hk : kindsOf P 20 t = some ks) (ha : (match P.underlying t with | some (.struct _) | some (.array _ _) => true | _ => false) = true)
    (hm : P.eqGuardType P.depth t = false) (xs ys : List Value) (hx : a.eval x = .agg xs.toArray) (hy : a.eval y = .agg ys.toArray) (fx : Fits ks xs) (fy : Fits ks ys) (h : ∀ b, (b = true ↔ xs = ys) → K (a.put o.dst (.bool (!b))) w) : o.wp P a w K Q := by
  obtain ⟨b, _, hb, hb'⟩ := run_eql_flat w hk ha fx fy
  unfold Oper.wp execOp
  simp only [ho, hx, hy, Sem.run_bind, run_eqGuard_agg w .neq t x y _ _ hm, Result.andThen_ok, hb]
  exact h b hb'
theorem wpList_eql_flat {ops : Array Oper} {Q : Exit → Act → World → Prop} {rest : List Oper} {o : Oper} {a : Act} {w : World} (hgd : o.guard = none) (t yt : TypeId) (x y : Operand) (ho : o.op = .binOp .eql t x y yt) (ks : List (Option IntKind)) (hk : kindsOf P 20 t = some ks) (ha : (match P.underlying t with | some (.struct _) | some (.array _ _) => true | _ => false) = true)
    (hm : P.eqGuardType P.depth t = false) (xs ys : List Value) (hx : a.eval x = .agg xs.toArray) (hy : a.eval y = .agg ys.toArray) (fx : Fits ks xs) (fy : Fits ks ys) (h : ∀ b, (b = true ↔ xs = ys) → wpList P ops Q rest (a.put o.dst (.bool b)) w) : wpList P ops Q (o :: rest) a w :=
  wpList_plain hgd fun _ hK => wp_eql_flat t yt x y ho ks hk ha hm xs ys hx hy fx fy fun b hb => hK _ _ (h b hb)
theorem wpList_neq_flat {ops : Array Oper} {Q : Exit → Act → World → Prop} {rest : List Oper} {o : Oper} {a : Act} {w : World} (hgd : o.guard = none) (t yt : TypeId) (x y : Operand) (ho : o.op = .binOp .neq t x y yt) (ks : List (Option IntKind)) (hk : kindsOf P 20 t = some ks) (ha : (match P.underlying t with | some (.struct _) | some (.array _ _) => true | _ => false) = true)
    (hm : P.eqGuardType P.depth t = false) (xs ys : List Value) (hx : a.eval x = .agg xs.toArray) (hy : a.eval y = .agg ys.toArray) (fx : Fits ks xs) (fy : Fits ks ys) (h : ∀ b, (b = true ↔ xs = ys) → wpList P ops Q rest (a.put o.dst (.bool (!b))) w) : wpList P ops Q (o :: rest) a w :=
  wpList_plain hgd fun _ hK => wp_neq_flat t yt x y ho ks hk ha hm xs ys hx hy fx fy fun b hb => hK _ _ (h b hb)
/-- A whole value is loaded, wherever it lies. -/
theorem run_loadVar_at (w : World) (ad : Addr) (ty : TypeId) (cs : List Value) (hc : ∀ j v, cs[j]? = some v → w.cell? (ad.add j) = some v) (hd : (match P.underlying ty with | some (.struct _) | some (.array _ _) => true | _ => false) = true) (hi : (P.info? ty).map (·.size) = some cs.length) :
    (loadVar ty ad).run P w = .ok (.agg cs.toArray) w := by
  have hs := run_size_of hi w
  have hia : (isAgg ty).run P w = .ok true w := by
    split at hd
    · rename_i hu; simp [isAgg, run_underlying hu]
    · rename_i hu; simp [isAgg, run_underlying hu]
    · cases hd
  simp only [loadVar, Sem.run_bind, hia, Result.andThen_ok, if_true, hs, run_loadCells_list w ad cs hc, Sem.run_pure]
theorem wp_load_at {op : Oper} {a : Act} {w : World} {K : Act → World → Prop} {Q : Exit → Act → World → Prop} (ty : TypeId) (x : Operand) (ho : op.op = .load ty x) (ad : Addr) (hx : a.eval x = .pointer (some ad)) (cs : List Value)
    (hc : ∀ j v, cs[j]? = some v → w.cell? (ad.add j) = some v) (hd : (match P.underlying ty with | some (.struct _) | some (.array _ _) => true | _ => false) = true) (hi : (P.info? ty).map (·.size) = some cs.length)
    (h : K (a.put op.dst (.agg cs.toArray)) w) : op.wp P a w K Q := by
  unfold Oper.wp execOp
  simp only [ho, hx, Instr.loadAt, Instr.sureAddr, Sem.run_bind, Sem.run_pure, Result.andThen_ok, run_loadVar_at w ad ty cs hc hd hi]
  exact h
theorem wpList_load_at {ops : Array Oper} {Q : Exit → Act → World → Prop} {rest : List Oper} {op : Oper} {a : Act} {w : World} (hgd : op.guard = none) (ty : TypeId) (x : Operand) (ho : op.op = .load ty x) (ad : Addr) (hx : a.eval x = .pointer (some ad)) (cs : List Value)
    (hc : ∀ j v, cs[j]? = some v → w.cell? (ad.add j) = some v) (hd : (match P.underlying ty with | some (.struct _) | some (.array _ _) => true | _ => false) = true) (hi : (P.info? ty).map (·.size) = some cs.length)
    (h : wpList P ops Q rest (a.put op.dst (.agg cs.toArray)) w) : wpList P ops Q (op :: rest) a w :=
  wpList_plain hgd fun _ hK => wp_load_at ty x ho ad hx cs hc hd hi (hK _ _ h)
end
end Go.Proofs.Ytfnbpmkbjbibkaa

namespace Go.Proofs.Ytfnbpmkbjbibkaa
open Go Go.RowKit Go.Deep Go.Great Go.Proofs.YtfnbpmkbjbibkaaW.PrintWords
set_option linter.unusedVariables false
set_option linter.unusedSimpArgs false

section
variable {P : Program}
theorem range_of {w : World} {b t : Nat} {cs : Array Value} {z : Nat × Nat} (H : w.heap[b]? = some (.cells cs t z)) : w.rangeAt b 0 cs.toList := fun j v hv => by
  rw [Nat.zero_add, cell_of_row w b j _ _ _ H]
  simpa using hv
theorem range_in {w : World} {b t : Nat} {cs : List Value} {z : Nat × Nat} (H : w.heap[b]? = some (.cells cs.toArray t z)) (o : Nat) (vs : List Value) (h : ∀ j v, vs[j]? = some v → cs[o + j]? = some v) : w.rangeAt b o vs := fun j v hv => by
  rw [cell_of_row w b (o + j) _ _ _ H]
  simpa using h j v hv
theorem there_mid {w : World} {B t : Nat} {cs : Array Value} (H : w.heap[B]? = some (.cells cs t (0, 0))) (o n : Nat) (h : o + n ≤ cs.size) : w.there B o n := fun j hj => by
  refine ⟨?_, blk_frozen H _⟩
  rw [cell_of_row w B (o + j) _ _ _ H]
  simp; omega
theorem storeN {w : World} {g t : Nat} {cs : Array Value} (h : w.heap[g]? = some (.cells cs t (0, 0))) (vs : List Value) (hs : cs.size = vs.length) : (w.setCells g 0 vs).heap[g]? = some (.cells vs.toArray t (0, 0)) ∧ Only g w (w.setCells g 0 vs) := by
  refine ⟨?_, only_setCells vs 0 w⟩
  rw [blk_setCells vs 0 w cs h]
  have := putAt_list vs 0 cs (by omega)
  have e : putAt cs 0 vs = vs.toArray := by
    apply Array.toList_inj.1
    rw [this]
    simp [hs]
  rw [e]
theorem wpList_load_arr {ops : Array Oper} {Q : Exit → Act → World → Prop} {rest : List Oper} {op : Oper} {a : Act} {w : World} (hgd : op.guard = none) (ty : TypeId) (x : Operand) (ho : op.op = .load ty x)
    (b : Nat) (hx : a.eval x = .pointer (some ⟨b, 0, none⟩)) (cs : Array Value) {t : Nat} {z : Nat × Nat} (H : w.heap[b]? = some (.cells cs t z)) (d : TypeDesc)
    (hu : P.underlying ty = some d) (hd : d.isRow = true) (hi : (P.info? ty).map (·.size) = some cs.size)
    (h : wpList P ops Q rest (a.put op.dst (.agg cs)) w) : wpList P ops Q (op :: rest) a w :=
  wpList_load_mid hgd ty x ho b 0 hx cs.toList d (range_of H) hu hd (by simpa using hi) (by simpa using h)
theorem wp_load_arr {op : Oper} {a : Act} {w : World} {K : Act → World → Prop} {Q : Exit → Act → World → Prop} (ty : TypeId) (x : Operand) (ho : op.op = .load ty x)
    (b : Nat) (hx : a.eval x = .pointer (some ⟨b, 0, none⟩)) (cs : Array Value) {t : Nat} {z : Nat × Nat} (H : w.heap[b]? = some (.cells cs t z)) (d : TypeDesc)
    (hu : P.underlying ty = some d) (hd : d.isRow = true) (hi : (P.info? ty).map (·.size) = some cs.size) (h : K (a.put op.dst (.agg cs)) w) : op.wp P a w K Q :=
  wp_load_mid ty x ho b 0 hx cs.toList d (range_of H) hu hd (by simpa using hi) (by simpa using h)
theorem wp_store_arr {op : Oper} {a : Act} {w : World} {K : Act → World → Prop} {Q : Exit → Act → World → Prop} (ty : TypeId) (x y : Operand) (ho : op.op = .store ty x y)
    (b : Nat) (hx : a.eval x = .pointer (some ⟨b, 0, none⟩)) (cs : Array Value) (hy : a.eval y = .agg cs) (rs : Array Value) (t : Nat) (H : w.heap[b]? = some (.cells rs t (0, 0))) (hrs : rs.size = cs.size)
    (hi : (P.info? ty).map (·.size) = some cs.size) (h1 : cs.all (·.oneCell') = true)
    (h : ∀ w', w'.heap[b]? = some (.cells cs t (0, 0)) → Only b w w' → K (a.put op.dst undef) w') : op.wp P a w K Q := by
  have hs := storeN H cs.toList (by simpa using hrs)
  refine wp_store_mid ty x y ho b 0 cs hx hy (there_mid H 0 _ (by omega)) hi h1 (h _ ?_ hs.2)
  simpa using hs.1
theorem wpList_store_arr {ops : Array Oper} {Q : Exit → Act → World → Prop} {rest : List Oper} {op : Oper} {a : Act} {w : World} (hgd : op.guard = none) (ty : TypeId) (x y : Operand) (ho : op.op = .store ty x y)
    (b : Nat) (hx : a.eval x = .pointer (some ⟨b, 0, none⟩)) (cs : Array Value) (hy : a.eval y = .agg cs) (rs : Array Value) (t : Nat) (H : w.heap[b]? = some (.cells rs t (0, 0))) (hrs : rs.size = cs.size)
    (hi : (P.info? ty).map (·.size) = some cs.size) (h1 : cs.all (·.oneCell') = true)
    (h : ∀ w', w'.heap[b]? = some (.cells cs t (0, 0)) → Only b w w' → wpList P ops Q rest (a.put op.dst undef) w') : wpList P ops Q (op :: rest) a w :=
  wpList_plain hgd fun _ hK => wp_store_arr ty x y ho b hx cs hy rs t H hrs hi h1 fun w' h2 h3 => hK _ _ (h w' h2 h3)
theorem wp_build_eq {o : Oper} {a : Act} {w : World} {K : Act → World → Prop} {Q : Exit → Act → World → Prop} (t : TypeId) (parts : Array (Nat × Operand)) (ho : o.op = .build t parts) (cells : Array Value)
    (hc : P.built t (parts.map fun (i, x) => (i, a.eval x)).toList = some cells) (h : K (a.put o.dst (.agg cells)) w) : o.wp P a w K Q := by
  unfold Oper.wp execOp
  simp only [ho, Sem.run_bind, run_build w t _ cells hc, Result.andThen_ok]
  exact h
/-- A new variable: its zero as a row. -/
theorem wp_alloc_z {o : Oper} {a : Act} {w : World} {K : Act → World → Prop} {Q : Exit → Act → World → Prop} (t : TypeId) (ho : o.op = .alloc t) (cs : Array Value)
    (hz : (P.info? t).bind (fun i => i.zero.map (·.cells)) = some cs) (h : ∀ w', w'.heap[w.heap.size]? = some (.cells cs t (0, 0)) → Below w.heap.size w w' → K (a.put o.dst (.pointer (some ⟨w.heap.size, 0, none⟩))) w') : o.wp P a w K Q := by
  cases hi : P.info? t with
  | none => simp [hi] at hz
  | some it =>
    cases hzz : it.zero with
    | none => simp [hi, hzz] at hz
    | some z =>
      simp only [hi, hzz, Option.bind_some, Option.map_some, Option.some.injEq] at hz
      subst hz
      have hrun : (Instr.alloc t true (.tuple #[])).run P w = .ok (.pointer (some ⟨w.heap.size, 0, none⟩)) (w.alloc (.cells z.cells t)) := by
        simp [Instr.alloc, zeroValue, typeInfo, hi, hzz, newVar, newRow]
      unfold Oper.wp execOp
      simp only [ho, Sem.run_bind, hrun, Result.andThen_ok]
      exact h _ (blk_new w _) (below_alloc (Below.refl _ _) _)
theorem wpList_alloc_z {ops : Array Oper} {Q : Exit → Act → World → Prop} {rest : List Oper} {o : Oper} {a : Act} {w : World} (hgd : o.guard = none) (t : TypeId) (ho : o.op = .alloc t) (cs : Array Value)
    (hz : (P.info? t).bind (fun i => i.zero.map (·.cells)) = some cs) (h : ∀ w', w'.heap[w.heap.size]? = some (.cells cs t (0, 0)) → Below w.heap.size w w' → wpList P ops Q rest (a.put o.dst (.pointer (some ⟨w.heap.size, 0, none⟩))) w') : wpList P ops Q (o :: rest) a w :=
  wpList_plain hgd fun _ hK => wp_alloc_z t ho cs hz fun w' h2 h3 => hK _ _ (h w' h2 h3)
theorem wpList_box_arr {ops : Array Oper} {Q : Exit → Act → World → Prop} {rest : List Oper} {o : Oper} {a : Act} {w : World} (hgd : o.guard = none) (t : TypeId) (x : Operand) (ho : o.op = .box t x) (cs : Array Value) (hx : a.eval x = .agg cs)
    (h : ∀ w', w'.heap[w.heap.size]? = some (.cells cs t (0, 0)) → Below w.heap.size w w' → wpList P ops Q rest (a.put o.dst (.pointer (some ⟨w.heap.size, 0, none⟩))) w') : wpList P ops Q (o :: rest) a w := by
  refine wpList_plain hgd fun K hK => ?_
  unfold Oper.wp execOp
  simp only [ho, hx, Sem.run_bind, Instr.box, newVar, newRow, run_newObj_alloc, Sem.run_pure, Result.andThen_ok]
  exact hK _ _ (h _ (blk_new w _) (below_alloc (Below.refl _ _) _))

/- What 'build' makes, part by part. -/
theorem foldl_putAt (off : Nat) : ∀ (l : List Value) (k : Nat) (cs : Array Value), (l.zipIdx k).foldl (fun cs (x : Value × Nat) => cs.setIfInBounds (off + x.2) x.1) cs = putAt cs (off + k) l
  | [], k, cs => rfl
  | v :: vs, k, cs => by
    rw [List.zipIdx_cons, List.foldl_cons, putAt]
    exact foldl_putAt off vs (k + 1) _
theorem fill_put {place : Nat → Option (Nat × Nat)} {cells : Array Value} {i off size : Nat} {v : Value} {rest : List (Nat × Value)} (hp : place i = some (off, size)) (hs : v.cells.size = size) (hb : off + size ≤ cells.size) :
    Instr.fill place cells ((i, v) :: rest) = Instr.fill place (putAt cells off v.cells.toList) rest := by
  rw [Instr.fill]
  simp only [hp]
  rw [if_neg (by simp [hs]; omega)]
  congr 1
  have := foldl_putAt off v.cells.toList 0 cells
  rw [Nat.add_zero] at this
  rw [← this, ← Array.foldl_toList]
  simp
theorem putAt_size : ∀ (vs : List Value) (o : Nat) (a : Array Value), (putAt a o vs).size = a.size
  | [], _, _ => rfl
  | v :: vs, o, a => by rw [putAt, putAt_size vs]; simp
end

/-- The first cells of a machine, and of a state: pc, registers, file, tick, retired; then L. -/
def cH (pc : Int) (rg fl : List Value) (tk rt : Int) (L : List Value) : List Value := .int .u32 pc :: (rg ++ (fl ++ (.int .u64 tk :: .int .u64 rt :: L)))
section
variable {pc : Int} {rg fl : List Value} {tk rt : Int} {L : List Value}
theorem cH_len (h1 : rg.length = 32) (h2 : fl.length = 9) : (cH pc rg fl tk rt L).length = 44 + L.length := by simp [cH, h1, h2]; omega
theorem cH_r (h1 : rg.length = 32) (h2 : fl.length = 9) (j : Nat) (v : Value) (h : rg[j]? = some v) : (cH pc rg fl tk rt L)[1 + j]? = some v := by
  have hj := (List.getElem?_eq_some_iff.1 h).1
  rw [cH, Nat.add_comm, List.getElem?_cons_succ, List.getElem?_append_left hj, h]
theorem cH_f (h1 : rg.length = 32) (h2 : fl.length = 9) (j : Nat) (v : Value) (h : fl[j]? = some v) : (cH pc rg fl tk rt L)[33 + j]? = some v := by
  have hj := (List.getElem?_eq_some_iff.1 h).1
  rw [cH, show 33 + j = (32 + j) + 1 by omega, List.getElem?_cons_succ, List.getElem?_append_right (by omega), h1, show 32 + j - 32 = j by omega, List.getElem?_append_left hj, h]
theorem cH_t (h1 : rg.length = 32) (h2 : fl.length = 9) (j : Nat) : (cH pc rg fl tk rt L)[42 + j]? = (.int .u64 tk :: .int .u64 rt :: L)[j]? := by
  rw [cH, show 42 + j = (41 + j) + 1 by omega, List.getElem?_cons_succ, List.getElem?_append_right (by omega), h1, List.getElem?_append_right (by omega), h2, show 41 + j - 32 - 9 = j by omega]
theorem cH_L (h1 : rg.length = 32) (h2 : fl.length = 9) (j : Nat) : (cH pc rg fl tk rt L)[44 + j]? = L[j]? := by
  rw [show 44 + j = 42 + (j + 2) by omega, cH_t h1 h2]; rfl
theorem set_after (a b : List Value) (n j : Nat) (v : Value) (h : a.length = n) : (a ++ b).set (n + j) v = a ++ b.set j v := by
  rw [List.set_append_right _ _ (by omega), h, Nat.add_sub_cancel_left]
theorem cH_setL (h1 : rg.length = 32) (h2 : fl.length = 9) (j : Nat) (v : Value) : (cH pc rg fl tk rt L).toArray.setIfInBounds (44 + j) v = (cH pc rg fl tk rt (L.set j v)).toArray := by
  rw [List.setIfInBounds_toArray, cH, show 44 + j = (32 + (9 + (2 + j))) + 1 by omega, List.set_cons_succ, set_after _ _ _ _ _ h1, set_after _ _ _ _ _ h2, show 2 + j = j + 1 + 1 by omega]
  rfl
theorem cH_setP (x : Int) : (cH pc rg fl tk rt L).toArray.setIfInBounds 0 (.int .u32 x) = (cH x rg fl tk rt L).toArray := by
  rw [List.setIfInBounds_toArray]; rfl
theorem cH_setR (h1 : rg.length = 32) (j : Nat) (hj : j < 32) (v : Value) : (cH pc rg fl tk rt L).toArray.setIfInBounds (1 + j) v = (cH pc (rg.set j v) fl tk rt L).toArray := by
  rw [List.setIfInBounds_toArray, cH, Nat.add_comm, List.set_cons_succ, List.set_append_left _ _ (by omega)]
  rfl
theorem cH_setT (h1 : rg.length = 32) (h2 : fl.length = 9) (x : Int) : (cH pc rg fl tk rt L).toArray.setIfInBounds 42 (.int .u64 x) = (cH pc rg fl x rt L).toArray := by
  have e1 := set_after rg (fl ++ (.int .u64 tk :: .int .u64 rt :: L)) 32 (9 + 0) (.int .u64 x) h1
  rw [set_after fl _ 9 0 _ h2] at e1
  rw [List.setIfInBounds_toArray]
  exact congrArg (fun l => (Value.int .u32 pc :: l).toArray) e1
theorem cH_setI (h1 : rg.length = 32) (h2 : fl.length = 9) (x : Int) : (cH pc rg fl tk rt L).toArray.setIfInBounds 43 (.int .u64 x) = (cH pc rg fl tk x L).toArray := by
  have e1 := set_after rg (fl ++ (.int .u64 tk :: .int .u64 rt :: L)) 32 (9 + 1) (.int .u64 x) h1
  rw [set_after fl _ 9 1 _ h2] at e1
  rw [List.setIfInBounds_toArray]
  exact congrArg (fun l => (Value.int .u32 pc :: l).toArray) e1
theorem cH_one (h1 : ∀ v ∈ rg, v.oneCell' = true) (h2 : ∀ v ∈ fl, v.oneCell' = true) (h3 : ∀ v ∈ L, v.oneCell' = true) : (cH pc rg fl tk rt L).toArray.all (·.oneCell') = true := by
  refine all_oneCell_toArray fun v hv => ?_
  simp only [cH, List.mem_cons, List.mem_append] at hv
  rcases hv with rfl | hv | hv | rfl | rfl | hv
  · rfl
  · exact h1 v hv
  · exact h2 v hv
  · rfl
  · rfl
  · exact h3 v hv
end
/-- Zeros. -/
def rZ : List Value := List.replicate 32 (.int .u32 0)
def fZ : List Value := List.replicate 7 (.int .u32 0) ++ List.replicate 2 (.int .u64 0)
def sL (ram rx out : Value) (over : Bool) (came o m : Int) (s off : Bool) (code : Int) (ev : Value) : List Value := [ram, rx, out, .bool over, .int .i64 came, .int .u64 o, .int .u64 m, .bool s, .bool off, .int .u32 code, ev]
def nl : Value := .slice none 0 0
def zS : Array Value := (cH 0 rZ fZ 0 0 (sL nl nl nl false 0 0 0 false false 0 nl)).toArray
theorem rZ_len : rZ.length = 32 := rfl
theorem fZ_len : fZ.length = 9 := rfl
theorem rZ_one : ∀ v ∈ rZ, v.oneCell' = true := by intro v hv; obtain rfl := List.eq_of_mem_replicate hv; rfl
theorem fZ_one : ∀ v ∈ fZ, v.oneCell' = true := by
  intro v hv
  rcases List.mem_append.1 hv with hv | hv <;> (obtain rfl := List.eq_of_mem_replicate hv; rfl)
theorem zS_size : zS.size = 55 := rfl
theorem zS_one : zS.all (·.oneCell') = true := by kernel_rfl
theorem zS_zero : (Try.prog.info? 43).bind (fun i => i.zero.map (·.cells)) = some zS := by kernel_rfl
theorem zS_built : Try.prog.built 43 [] = some zS := by kernel_rfl
theorem st_size : (Try.prog.info? 43).map (·.size) = some 55 := by kernel_rfl
theorem cpu_size : (Try.prog.info? 91).map (·.size) = some 46 := by kernel_rfl

/-- Block p is a machine. -/
structure IsM (w : World) (p : Nat) (pc : Int) (rg fl : List Value) (tk rt : Int) (B : Nat) (ev : Value) : Prop where
  h : w.heap[p]? = some (.cells (cH pc rg fl tk rt [.pointer (some ⟨B, 0, none⟩), ev]).toArray 91 (0, 0))
  r : rg.length = 32
  f : fl.length = 9
  r1 : ∀ v ∈ rg, v.oneCell' = true
  f1 : ∀ v ∈ fl, v.oneCell' = true
  e : ∃ A n c, ev = .slice A n c
section
variable {w w' : World} {p : Nat} {pc : Int} {rg fl : List Value} {tk rt : Int} {B : Nat} {ev : Value}
theorem IsM.below (h : IsM w p pc rg fl tk rt B ev) (d : Below w.heap.size w w') : IsM w' p pc rg fl tk rt B ev := ⟨blk_below h.h d, h.r, h.f, h.r1, h.f1, h.e⟩
theorem IsM.drawn (h : IsM w p pc rg fl tk rt B ev) (d : Drawn0 w w') : IsM w' p pc rg fl tk rt B ev := h.below d.below
theorem IsM.cpc (h : IsM w p pc rg fl tk rt B ev) : w.cell? ⟨p, 0, none⟩ = some (.int .u32 pc) := (cell_of_row w p 0 _ _ _ h.h).trans rfl
theorem IsM.ctk (h : IsM w p pc rg fl tk rt B ev) : w.cell? ⟨p, 42, none⟩ = some (.int .u64 tk) := by
  rw [cell_of_row w p 42 _ _ _ h.h, List.getElem?_toArray]; exact cH_t h.r h.f 0
theorem IsM.crt (h : IsM w p pc rg fl tk rt B ev) : w.cell? ⟨p, 43, none⟩ = some (.int .u64 rt) := by
  rw [cell_of_row w p 43 _ _ _ h.h, List.getElem?_toArray]; exact cH_t h.r h.f 1
theorem IsM.cb (h : IsM w p pc rg fl tk rt B ev) : w.cell? ⟨p, 44, none⟩ = some (.pointer (some ⟨B, 0, none⟩)) := by
  rw [cell_of_row w p 44 _ _ _ h.h, List.getElem?_toArray]; exact cH_L h.r h.f 0
theorem IsM.cev (h : IsM w p pc rg fl tk rt B ev) : w.cell? ⟨p, 45, none⟩ = some ev := by
  rw [cell_of_row w p 45 _ _ _ h.h, List.getElem?_toArray]; exact cH_L h.r h.f 1
theorem IsM.rr (h : IsM w p pc rg fl tk rt B ev) : w.rangeAt p 1 rg := range_in h.h 1 rg (cH_r h.r h.f)
theorem IsM.rf (h : IsM w p pc rg fl tk rt B ev) : w.rangeAt p 33 fl := range_in h.h 33 fl (cH_f h.r h.f)
theorem IsM.fz (h : IsM w p pc rg fl tk rt B ev) (i : Nat) : w.frozen? ⟨p, i, none⟩ = false := blk_frozen h.h i
theorem IsM.setP (h : IsM w p pc rg fl tk rt B ev) (x : Int) : IsM (w.setCell ⟨p, 0, none⟩ (.int .u32 x)) p x rg fl tk rt B ev := ⟨by rw [blk_set h.h 0 _, cH_setP], h.r, h.f, h.r1, h.f1, h.e⟩
theorem IsM.setT (h : IsM w p pc rg fl tk rt B ev) (x : Int) : IsM (w.setCell ⟨p, 42, none⟩ (.int .u64 x)) p pc rg fl x rt B ev := ⟨by rw [blk_set h.h 42 _, cH_setT h.r h.f], h.r, h.f, h.r1, h.f1, h.e⟩
theorem IsM.setI (h : IsM w p pc rg fl tk rt B ev) (x : Int) : IsM (w.setCell ⟨p, 43, none⟩ (.int .u64 x)) p pc rg fl tk x B ev := ⟨by rw [blk_set h.h 43 _, cH_setI h.r h.f], h.r, h.f, h.r1, h.f1, h.e⟩
theorem IsM.setR (h : IsM w p pc rg fl tk rt B ev) (j : Nat) (hj : j < 32) (x : Int) : IsM (w.setCell ⟨p, 1 + j, none⟩ (.int .u32 x)) p pc (rg.set j (.int .u32 x)) fl tk rt B ev :=
  ⟨by rw [blk_set h.h (1 + j) _, cH_setR h.r j hj], by simp [h.r], h.f, fun v hv => by
    rcases List.mem_or_eq_of_mem_set hv with hv | rfl
    · exact h.r1 v hv
    · rfl, h.f1, h.e⟩
end
end Go.Proofs.Ytfnbpmkbjbibkaa

namespace Go.Proofs.Ytfnbpmkbjbibkaa
open Go Go.RowKit Go.Deep Go.Great Go.Proofs.YtfnbpmkbjbibkaaW.PrintWords Go.Proofs.Ytfnbpmkbjbibkaa.QCpuSame
set_option linter.unusedVariables false
set_option linter.unusedSimpArgs false

set_option maxRecDepth 100000 in
set_option maxHeartbeats 2000000 in
theorem cstate_nil (w : World) : Calls Try.prog 10 #[.pointer none] w fun e w' => e = .returned (.agg zS) ∧ Below w.heap.size w w' := by
  go_enter Try.func10, Try.ntmps10
  go_wp2_with (first
    | (refine wpList_alloc_z rfl 43 rfl zS zS_zero ?_; intro w1 hb1 hB1; have HB1 := Aside0.mk hb1; have BB1 := Aside0.mk hB1; clear hb1 hB1)
    | (refine wpList_buildTo rfl 43 #[] rfl (some 7) rfl zS zS_built ?_)
    | (refine wpList_store_arr rfl 43 (.tmp 2) (.tmp 7) rfl w.heap.size rfl zS rfl zS 43 HB1.out rfl (by rw [zS_size]; exact st_size) zS_one ?_; intro w2 hf ho; have HF2 := Aside0.mk hf; have HO2 := Aside0.mk ho; clear hf ho))
  refine bodyPost_ret (results_cell_row rfl _ _ w.heap.size 43 zS (0, 0) _ rfl HF2.out Try.underlying43 rfl (by rw [zS_size]; exact st_size)) rfl ⟨rfl, ?_⟩
  exact HO2.out.below (Nat.le_refl _) BB1.out

def fN : List Value := .int .u32 6144 :: (List.replicate 6 (.int .u32 0) ++ List.replicate 2 (.int .u64 0))
theorem fN_one : ∀ v ∈ fN, v.oneCell' = true := by
  intro v hv
  rcases List.mem_cons.1 hv with rfl | hv
  · rfl
  · rcases List.mem_append.1 hv with hv | hv <;> (obtain rfl := List.eq_of_mem_replicate hv; rfl)
theorem m_built (B : Nat) : Try.prog.built 91 [(0, .int .u32 2147483648), (2, .agg #[.int .u32 6144, .int .u32 0, .int .u32 0, .int .u32 0, .int .u32 0, .int .u32 0, .int .u32 0, .int .u64 0, .int .u64 0]), (5, .pointer (some ⟨B, 0, none⟩))] = some (cH 2147483648 rZ fN 0 0 [.pointer (some ⟨B, 0, none⟩), nl]).toArray := by kernel_rfl

/-- A machine that was made since W. -/
structure MC (W w : World) (p : Nat) (pc : Int) (rg fl : List Value) (tk rt : Int) (ev : Value) (B R C T BB BW BG n k : Nat) (X : Nat → Prop) (l : List Int) (ws : List Bool) (gs : List Int) (al : List (Int × Int)) (came : Nat) (q : List Int) (over : Bool) (out : List Int) (o m : Int) (s off : Bool) (code : Int) : Prop where
  im : IsM w p pc rg fl tk rt B ev
  ib : MB W w B R C T BB BW BG n k X l ws gs al came q over out o m s off code
  ap : W.heap.size ≤ p
  d : ¬ X p ∧ p ≠ B ∧ p ≠ R ∧ p ≠ BB ∧ p ≠ BW ∧ p ≠ BG ∧ p ≠ T
section
variable {W w w' : World} {p : Nat} {pc : Int} {rg fl : List Value} {tk rt : Int} {ev : Value} {B R C T BB BW BG n k : Nat} {X : Nat → Prop} {l : List Int} {ws : List Bool} {gs : List Int} {al : List (Int × Int)} {came : Nat} {q : List Int} {over : Bool} {out : List Int} {o m : Int} {s off : Bool} {code : Int}
theorem MC.below (h : MC W w p pc rg fl tk rt ev B R C T BB BW BG n k X l ws gs al came q over out o m s off code) (d : Below w.heap.size w w') : MC W w' p pc rg fl tk rt ev B R C T BB BW BG n k X l ws gs al came q over out o m s off code := ⟨h.im.below d, h.ib.below d, h.ap, h.d⟩
theorem MB.away (h : MB W w B R C T BB BW BG n k X l ws gs al came q over out o m s off code) (ho : Only p w w') (ap : W.heap.size ≤ p) (d : ¬ X p ∧ p ≠ B ∧ p ≠ R ∧ p ≠ BB ∧ p ≠ BW ∧ p ≠ BG ∧ p ≠ T) : MB W w' B R C T BB BW BG n k X l ws gs al came q over out o m s off code :=
  ⟨blk_only h.b ho (Ne.symm d.2.1), ram_move h.r fun i hi => ho.block i (ram_lt h.r i hi) (by have := d; rcases hi with rfl | rfl | rfl | rfl <;> omega),
    h.c.move (Y := fun i => i = p) (OnlyP.of_only ho rfl) (fun i hi e => d.1 (e ▸ hi)) (fun i e => e ▸ ap), h.t.only ho (Ne.symm d.2.2.2.2.2.2), h.ap, h.dis, h.tb, h.bb, h.n0⟩
/-- The machine's own block was written. -/
theorem MC.own (h : MC W w p pc rg fl tk rt ev B R C T BB BW BG n k X l ws gs al came q over out o m s off code) {pc' : Int} {rg' fl' : List Value} {tk' rt' : Int} {ev' : Value} (hm : IsM w' p pc' rg' fl' tk' rt' B ev') (ho : Only p w w') : MC W w' p pc' rg' fl' tk' rt' ev' B R C T BB BW BG n k X l ws gs al came q over out o m s off code :=
  ⟨hm, h.ib.away ho h.ap h.d, h.ap, h.d⟩
end

set_option maxRecDepth 100000 in
set_option maxHeartbeats 4000000 in
theorem cnew_ok (W w : World) (hW : Below W.heap.size W w) (n : Nat) (h0 : 64 ≤ n) (h1 : n ≤ 65536) (h2 : n % 64 = 0) (Ap : Option Addr) (np cp : Nat) (LL : List Int)
    (HL : ∀ w1 R BB BW BG, Below w.heap.size w w1 → w.heap.size ≤ R → w.heap.size ≤ BB → w.heap.size ≤ BW → w.heap.size ≤ BG → IsRam w1 R BB BW BG n (n / 64) (List.replicate n 0) (List.replicate (n / 64) false) (List.replicate (n / 64) 0) →
      Calls Try.prog 45 #[.pointer (some ⟨R, 0, none⟩), .slice Ap np cp] w1 fun e w2 => e = .returned (.int .i64 0) ∧ (∃ ws gs, IsRam w2 R BB BW BG n (n / 64) LL ws gs) ∧ OnlyP (fun b => b = BB ∨ b = BW ∨ b = BG) w1 w2)
    (A : Option Addr) (cl : Nat) (al : List (Int × Int)) (hA : AR w A al) (hn : A = none → al = [] ∧ cl = 0) (wa : ∀ p ∈ al, (0 ≤ p.1 ∧ p.1 < 18446744073709551616) ∧ 0 ≤ p.2 ∧ p.2 < 256) (ll : al.length ≤ 256) (hs : aord al al.length) :
    Calls Try.prog 13 #[.int .i64 (n : Int), .slice Ap np cp, .slice A al.length cl] w fun e w' => ∃ p B R C T BB BW BG X ws gs, e = .returned (.tuple #[.pointer (some ⟨p, 0, none⟩), .int .i64 0]) ∧ MC W w' p 2147483648 rZ fN 0 0 nl B R C T BB BW BG n (n / 64) X LL ws gs al 0 [] false [] 0 18446744073709551615 false false 0 ∧ Below w.heap.size w w' := by
  have HR := Aside0.mk (new_yes w n h0 h1 h2)
  have HC := Aside0.mk (fun w' (hb : Below w.heap.size w w') => kc_new W w' (below_on hW hb) A cl al (hA.below hb) hn wa ll hs)
  have HLL := Aside0.mk HL
  have hWs := hW.size
  clear hA hn wa hs hW HL
  go_enter Try.func13, Try.ntmps13
  go_wp2_with fail
  refine HR.out.mono ?_
  rintro e w1 ⟨rfl, ⟨BB, BW, BG, p1, p2, p3, ir⟩, b1⟩
  have IR := Aside0.mk ir
  have HP := Aside0.mk (And.intro p1 (And.intro p2 p3))
  have B1 := Aside0.mk b1
  obtain ⟨R, hR⟩ : ∃ R, w.heap.size + 1 + 1 + 1 = R := ⟨_, rfl⟩
  rw [hR] at IR ⊢
  have HRS : Aside0 (w.heap.size ≤ R) := ⟨by omega⟩
  clear ir b1 p1 p2 p3 hR HR
  go_wp2_with fail
  refine (HLL.out w1 R BB BW BG B1.out HRS.out HP.out.1 HP.out.2.1 HP.out.2.2 IR.out).mono ?_
  rintro e wl ⟨rfl, ⟨ws, gs, irl⟩, ol⟩
  have IRL := Aside0.mk irl
  have BL := Aside0.mk (ol.below (fun k hk => by have := HP.out; rcases hk with rfl | rfl | rfl <;> omega) B1.out)
  clear irl ol IR B1 HLL
  go_wp2_with fail
  refine (HC.out _ BL.out).mono ?_
  rintro e w2 ⟨C, X, rfl, kc, hx, b2⟩
  have KC2 := Aside0.mk kc
  have HX := Aside0.mk hx
  have IR2 := Aside0.mk (IRL.out.below b2)
  have B2 := Aside0.mk (below_on BL.out b2)
  have HD : Aside0 (∀ i, X i → i ≠ R ∧ i ≠ BB ∧ i ≠ BW ∧ i ≠ BG) := ⟨fun i hi => by
    have h := hx i hi
    have h1 := blk_lt IRL.out.r
    have h2 := blk_lt IRL.out.b
    have h3 := blk_lt IRL.out.f
    have h4 := blk_lt IRL.out.g
    exact ⟨by omega, by omega, by omega, by omega⟩⟩
  clear kc hx b2 HC IRL BL
  go_wp2_with fail
  refine (tnew_calls _).mono ?_
  rintro e w3 ⟨rfl, it, b3⟩
  have KC3 := Aside0.mk (KC2.out.below b3)
  have IR3 := Aside0.mk (IR2.out.below b3)
  have IT3 := Aside0.mk it
  have B3 := Aside0.mk (below_on B2.out b3)
  have HT : Aside0 (W.heap.size ≤ w2.heap.size ∧ (∀ i, X i → i ≠ w2.heap.size) ∧ w2.heap.size ≠ R ∧ w2.heap.size ≠ BB ∧ w2.heap.size ≠ BW ∧ w2.heap.size ≠ BG) := ⟨by
    have h1 := blk_lt IR2.out.r
    have h2 := blk_lt IR2.out.b
    have h3 := blk_lt IR2.out.f
    have h4 := blk_lt IR2.out.g
    have h5 := KC2.out.bel.size
    exact ⟨h5, fun i hi => Nat.ne_of_lt (KC2.out.xlt i hi), by omega, by omega, by omega, by omega⟩⟩
  clear it b3 KC2 IR2 B2
  generalize w2.heap.size = T at IT3 HT ⊢
  go_wp2_with fail
  refine (busnew_yes _ R C T).mono ?_
  rintro e w4 ⟨rfl, ib, b4⟩
  have FIN : Aside0 (MB W w4 w3.heap.size R C T BB BW BG n (n / 64) X LL ws gs al 0 [] false [] 0 18446744073709551615 false false 0 ∧ Below w.heap.size w w4) := ⟨by
    have g1 := blk_lt IR3.out.r
    have g2 := blk_lt IR3.out.b
    have g3 := blk_lt IR3.out.f
    have g4 := blk_lt IR3.out.g
    have g5 := IT3.out.lt
    have g6 := KC3.out.bel.size
    have g7 := HP.out
    have g8 := HRS.out
    have g9 := HT.out
    refine ⟨⟨ib, IR3.out.below b4, KC3.out.below b4, IT3.out.below b4, by omega, fun i hi => ?_, by omega, by omega, h1⟩, below_on B3.out b4⟩
    have := KC3.out.xlt i hi
    have h1 := HD.out i hi
    have h2 := HT.out.2.1 i hi
    exact ⟨by omega, h1.1, h1.2.1, h1.2.2.1, h1.2.2.2, h2⟩⟩
  clear ib b4 KC3 IR3 IT3 B3 HD HT HP HRS
  generalize w3.heap.size = B at FIN ⊢
  go_wp2_with fail
  refine (csr_New.calls 6144 0 0 0 0 0 0 0 0 _ rfl).mono ?_
  rintro e w5 ⟨rfl, b5⟩
  have FIN5 := Aside0.mk (And.intro (FIN.out.1.below b5) (below_on FIN.out.2 b5))
  clear b5 FIN
  go_wp2_with (first
    | (refine wpList_buildTo rfl 91 _ rfl (some 44) rfl _ (m_built B) ?_)
    | (refine wpList_box_arr rfl 91 (.tmp 44) rfl _ rfl ?_; intro w6 hb6 hB6; have HB6 := Aside0.mk hb6; have BB6 := Aside0.mk hB6; clear hb6 hB6))
  go_ret2
  refine ⟨w5.heap.size, B, R, C, T, BB, BW, BG, X, ws, gs, rfl, ⟨⟨HB6.out, rZ_len, rfl, rZ_one, fN_one, ⟨none, 0, 0, rfl⟩⟩, FIN5.out.1.below BB6.out, Nat.le_trans hWs FIN5.out.2.size, ?_⟩, below_on FIN5.out.2 BB6.out⟩
  have M5 := FIN5.out.1
  have g1 := blk_lt M5.r.r
  have g2 := blk_lt M5.r.b
  have g3 := blk_lt M5.r.f
  have g4 := blk_lt M5.r.g
  have g5 := M5.t.lt
  have g6 := blk_lt M5.b
  exact ⟨fun h => Nat.lt_irrefl _ (M5.c.xlt _ h), by omega, by omega, by omega, by omega, by omega, by omega⟩

section
variable {w : World} {p : Nat} {pc : Int} {rg fl : List Value} {tk rt : Int} {B : Nat} {ev : Value}
set_option maxRecDepth 100000 in
theorem chas_ok (w : World) (p : Nat) (n : Int) : Calls Try.prog 66 #[.pointer (some ⟨p, 0, none⟩), .int .i64 n] w fun e w' => e = .returned (.bool (decide (0 ≤ n) && decide (n < 32))) ∧ Drawn0 w w' := by
  go_enter Try.func66, Try.ntmps66
  rcases hd : decide (n ≥ 0) with _ | _
  · go_wp2
    go_ret
    have : ¬ 0 ≤ n := by simpa using hd
    exact ⟨by simp [this], Drawn0.refl _⟩
  · go_wp2
    go_ret
    have : 0 ≤ n := by simpa using hd
    exact ⟨by simp [this], Drawn0.refl _⟩
set_option maxRecDepth 100000 in
set_option maxHeartbeats 2000000 in
theorem cset_ok (h : IsM w p pc rg fl tk rt B ev) (n : Nat) (h0 : 0 < n) (h1 : n < 32) (x : Int) : Calls Try.prog 24 #[.pointer (some ⟨p, 0, none⟩), .int .i64 (n : Int), .int .u32 x] w fun e w' => e = .returned (.tuple #[]) ∧ IsM w' p pc (rg.set n (.int .u32 x)) fl tk rt B ev ∧ Only p w w' := by
  have H := Aside0.mk h
  clear h
  go_enter Try.func24, Try.ntmps24
  go_wp2_with fail
  refine (chas_ok _ _ _).mono ?_
  rintro e w1 ⟨rfl, d1⟩
  have e1 : (decide (0 ≤ (n : Int)) && decide ((n : Int) < 32)) = true := by simp; omega
  have e2 : decide ((n : Int) > 0) = true := by simp; omega
  rw [e1]
  have H1 := Aside0.mk (H.out.drawn d1)
  have O1 := Aside0.mk (Only.of_below (B := p) d1.below)
  clear d1 H
  obtain ⟨v0, hc⟩ : ∃ v, w1.cell? ⟨p, 1 + n, none⟩ = some v := ⟨_, H1.out.rr n _ (List.getElem?_eq_getElem (by rw [H1.out.r]; omega))⟩
  have hf := H1.out.fz (1 + n)
  go_wp2_with fail
  go_end0
  exact ⟨rfl, H1.out.setR n h1 x, O1.out.setCell _ _⟩
set_option maxRecDepth 100000 in
set_option maxHeartbeats 2000000 in
theorem cretire_ok (h : IsM w p pc rg fl tk rt B ev) (x : Int) : Calls Try.prog 25 #[.pointer (some ⟨p, 0, none⟩), .int .u32 x] w fun e w' => e = .returned (.tuple #[]) ∧ IsM w' p x rg fl (IntKind.u64.wrap (tk + 1)) (IntKind.u64.wrap (rt + 1)) B ev ∧ Only p w w' := by
  have H := Aside0.mk h
  have c0 := h.cpc
  have c1 := h.ctk
  have c2 := h.crt
  have f0 := h.fz 0
  have f1 := h.fz 42
  have f2 := h.fz 43
  clear h
  go_enter Try.func25, Try.ntmps25
  go_wp2
  go_end0
  exact ⟨rfl, ((H.out.setP x).setT _).setI _, (((Only.refl p w).setCell _ _).setCell _ _).setCell _ _⟩
end
end Go.Proofs.Ytfnbpmkbjbibkaa

namespace Go.Proofs.Ytfnbpmkbjbibkaa
open Go Go.RowKit Go.Deep Go.Great Go.Proofs.YtfnbpmkbjbibkaaW.PrintWords Go.Proofs.Ytfnbpmkbjbibkaa.QCpuSame
set_option linter.unusedVariables false
set_option linter.unusedSimpArgs false

section
variable {P : Program}
theorem built_struct {t : TypeId} {fields : Array Field} {zc : Array Value} {places : List (Nat × Nat)} {parts : List (Nat × Value)} (hi : (P.info? t).bind (fun i => i.zero.map (·.cells)) = some zc) (hu : P.underlying t = some (.struct fields))
    (hp : fields.toList.mapM (fun f => (P.info? f.type).map fun i => (f.offset, i.size)) = some places) : P.built t parts = Instr.fill (fun i => places.toArray[i]?) zc parts := by
  unfold Program.built
  cases hii : P.info? t with
  | none => simp [hii] at hi
  | some it =>
    cases hzz : it.zero with
    | none => simp [hii, hzz] at hi
    | some z =>
      simp only [hii, hzz, Option.bind_some, Option.map_some, Option.some.injEq] at hi
      subst hi
      simp only [hu, hp, hzz]
theorem run_storeVar_cell (w : World) (b o : Nat) (ty : TypeId) (v : Value) (ht : w.there b o 1) (hi : (P.info? ty).map (·.size) = some 1) (h1 : v.oneCell' = true) :
    (storeVar ty ⟨b, o, none⟩ v).run P w = .ok () (w.setCells b o [v]) := by
  have := run_storeCells_cells (P := P) b o [v] 0 w (fun j hj => by simpa using (ht j (by simpa using hj)).1) (fun j hj => by simpa using (ht j (by simpa using hj)).2) (fun x hx => by simp at hx; subst hx; exact h1)
  have hc : v.cells = #[v] := by cases v <;> first | rfl | cases h1
  cases hq : P.info? ty with
  | none => simp [hq] at hi
  | some i =>
    have hs : i.size = 1 := by simpa [hq] using hi
    simp only [Nat.add_zero] at this
    simp [storeVar, sizeOf, typeInfo, hq, hc, hs, this]
/-- A store of one cell into a block that is known whole. -/
theorem wpList_store_cell {ops : Array Oper} {Q : Exit → Act → World → Prop} {rest : List Oper} {op : Oper} {a : Act} {w : World} (hgd : op.guard = none) (ty : TypeId) (x y : Operand) (ho : op.op = .store ty x y)
    (b o : Nat) (v : Value) (hx : a.eval x = .pointer (some ⟨b, o, none⟩)) (hy : a.eval y = v) (hv : v.oneCell' = true) (cs : Array Value) (t : Nat) (H : w.heap[b]? = some (.cells cs t (0, 0))) (hb : o < cs.size)
    (hi : (P.info? ty).map (·.size) = some 1)
    (h : ∀ w', w'.heap[b]? = some (.cells (cs.setIfInBounds o v) t (0, 0)) → Only b w w' → wpList P ops Q rest (a.put op.dst undef) w') : wpList P ops Q (op :: rest) a w :=
  wpList_plain hgd fun _ hK => by
    unfold Oper.wp execOp
    simp only [ho, hx, hy, Instr.storeAt, Instr.sureAddr, Sem.run_bind, Sem.run_pure, Result.andThen_ok, run_storeVar_cell w b o ty v (there_mid H o 1 (by omega)) hi hv]
    exact hK _ _ (h _ (blk_setCells [v] o w cs H) (only_setCells [v] o w))
/-- A store of a part. -/
theorem wpList_store_part {ops : Array Oper} {Q : Exit → Act → World → Prop} {rest : List Oper} {op : Oper} {a : Act} {w : World} (hgd : op.guard = none) (ty : TypeId) (x y : Operand) (ho : op.op = .store ty x y)
    (b o : Nat) (vs : Array Value) (hx : a.eval x = .pointer (some ⟨b, o, none⟩)) (hy : a.eval y = .agg vs) (h1 : vs.all (·.oneCell') = true) (cs : Array Value) (t : Nat) (H : w.heap[b]? = some (.cells cs t (0, 0))) (hb : o + vs.size ≤ cs.size)
    (hi : (P.info? ty).map (·.size) = some vs.size)
    (h : ∀ w', w'.heap[b]? = some (.cells (putAt cs o vs.toList) t (0, 0)) → Only b w w' → wpList P ops Q rest (a.put op.dst undef) w') : wpList P ops Q (op :: rest) a w :=
  wpList_store_mid hgd ty x y ho b o vs hx hy (there_mid H o _ hb) hi h1 (h _ (blk_setCells vs.toList o w cs H) (only_setCells vs.toList o w))
end
section
variable {pc : Int} {rg fl : List Value} {tk rt : Int} {L : List Value}
theorem cH_size (h1 : rg.length = 32) (h2 : fl.length = 9) : (cH pc rg fl tk rt L).toArray.size = 44 + L.length := by rw [List.size_toArray, cH_len h1 h2]
theorem cH_putR (h1 : rg.length = 32) (h2 : fl.length = 9) (vs : List Value) (hv : vs.length = 32) : putAt (cH pc rg fl tk rt L).toArray 1 vs = (cH pc vs fl tk rt L).toArray := by
  apply Array.toList_inj.1
  rw [putAt_list _ _ _ (by rw [cH_size h1 h2]; omega), hv]
  show (cH pc rg fl tk rt L).take 1 ++ vs ++ (cH pc rg fl tk rt L).drop 33 = _
  rw [show 33 = 32 + 1 from rfl, cH, List.drop_succ_cons, List.drop_append_of_le_length (by omega), List.drop_of_length_le (by omega)]
  simp [cH]
theorem cH_putF (h1 : rg.length = 32) (h2 : fl.length = 9) (vs : List Value) (hv : vs.length = 9) : putAt (cH pc rg fl tk rt L).toArray 33 vs = (cH pc rg vs tk rt L).toArray := by
  apply Array.toList_inj.1
  rw [putAt_list _ _ _ (by rw [cH_size h1 h2]; omega), hv]
  show (cH pc rg fl tk rt L).take 33 ++ vs ++ (cH pc rg fl tk rt L).drop 42 = _
  have e1 : (cH pc rg fl tk rt L).take 33 = .int .u32 pc :: rg := by
    rw [show 33 = 32 + 1 from rfl, cH, List.take_succ_cons, List.take_append_of_le_length (by omega), List.take_of_length_le (by omega)]
  have e2 : (cH pc rg fl tk rt L).drop 42 = .int .u64 tk :: .int .u64 rt :: L := by
    rw [show 42 = 41 + 1 from rfl, cH, List.drop_succ_cons, ← List.append_assoc, List.drop_append_of_le_length (by simp; omega), List.drop_of_length_le (by simp; omega)]
    rfl
  rw [e1, e2]
  simp [cH]
theorem putAt_one (a : Array Value) (o : Nat) (v : Value) : putAt a o [v] = a.setIfInBounds o v := rfl
theorem st_built (h1 : rg.length = 32) (h2 : fl.length = 9) (A : Option Addr) (n c : Nat) (A' : Option Addr) (n' c' : Nat) : Try.prog.built 43 [(0, .int .u32 pc), (1, .agg rg.toArray), (2, .agg fl.toArray), (3, .int .u64 tk), (4, .int .u64 rt), (5, .slice A n c), (13, .slice A' n' c')] =
    some (cH pc rg fl tk rt (sL (.slice A n c) nl nl false 0 0 0 false false 0 (.slice A' n' c'))).toArray := by
  rw [built_struct zS_zero Try.underlying43 (places := [(0, 1), (1, 32), (33, 9), (42, 1), (43, 1), (44, 1), (45, 1), (46, 1), (47, 1), (48, 1), (49, 3), (52, 1), (53, 1), (54, 1)]) (by kernel_rfl)]
  rw [fill_put (off := 0) (size := 1) rfl rfl (by rw [zS_size]; omega)]
  rw [fill_put (off := 1) (size := 32) rfl (by simpa [Value.cells] using h1) (by simp only [putAt_size]; rw [zS_size]; omega)]
  rw [fill_put (off := 33) (size := 9) rfl (by simpa [Value.cells] using h2) (by simp only [putAt_size]; rw [zS_size]; omega)]
  rw [fill_put (off := 42) (size := 1) rfl rfl (by simp only [putAt_size]; rw [zS_size]; omega)]
  rw [fill_put (off := 43) (size := 1) rfl rfl (by simp only [putAt_size]; rw [zS_size]; omega)]
  rw [fill_put (off := 44) (size := 1) rfl rfl (by simp only [putAt_size]; rw [zS_size]; omega)]
  rw [fill_put (off := 54) (size := 1) rfl rfl (by simp only [putAt_size]; rw [zS_size]; omega)]
  simp only [Instr.fill, Value.cells, putAt_one]
  rw [zS, cH_setP]
  rw [cH_putR rZ_len fZ_len rg h1]
  rw [cH_putF h1 fZ_len fl h2]
  rw [cH_setT h1 h2, cH_setI h1 h2]
  have e1 := fun L v => cH_setL (pc := pc) (tk := tk) (rt := rt) (L := L) h1 h2 0 v
  have e2 := fun L v => cH_setL (pc := pc) (tk := tk) (rt := rt) (L := L) h1 h2 10 v
  rw [show (44 : Nat) = 44 + 0 from rfl, e1]
  rw [show (54 : Nat) = 44 + 10 from rfl, e2]
  rfl
end
/-- What stays where memory is made, and where a state's box is written. -/
def St (Q : World → Prop) : Prop := (∀ w w', Q w → Below w.heap.size w w' → Q w') ∧ (∀ w w' g cs, Q w → w.heap[g]? = some (.cells cs 43 (0, 0)) → Only g w w' → Q w')
theorem St.and {Q R : World → Prop} (h : St Q) (k : St R) : St (fun w => Q w ∧ R w) := ⟨fun w w' q d => ⟨h.1 w w' q.1 d, k.1 w w' q.2 d⟩, fun w w' g cs q hg ho => ⟨h.2 w w' g cs q.1 hg ho, k.2 w w' g cs q.2 hg ho⟩⟩
theorem st_own {base : Nat} {v : Value} {n : Nat} {xs : List Value} : St (fun w => w.ownsRow base 5 1 v n xs) :=
  ⟨fun w w' q d => owns_below q d, fun w w' g cs q hg ho => owns_move q fun i hi => ho.block i (by
    rcases q.2 with ⟨rfl, _⟩ | ⟨g', cap, cur, rfl, hg', hh, _⟩
    · cases hi
    · obtain rfl : g' = i := by simpa [Value.ownBlock] using hi
      exact blk_lt hh) (fun e => owns_ne q hg (by decide) (e ▸ hi))⟩
/-- A state in the making: its box, the result's box, what stays. -/
structure SW (w0 : World) (G g : Nat) (a : Array Value) (Q : World → Prop) (w : World) : Prop where
  hG : w.heap[G]? = some (.cells a 43 (0, 0))
  hg : w.heap[g]? = some (.cells zS 43 (0, 0))
  ne : G ≠ g
  gG : w0.heap.size ≤ G
  gg : w0.heap.size ≤ g
  b : Below w0.heap.size w0 w
  q : Q w
theorem SW.below {w0 w w' : World} {G g : Nat} {a : Array Value} {Q : World → Prop} (h : SW w0 G g a Q w) (s : St Q) (d : Below w.heap.size w w') : SW w0 G g a Q w' := ⟨blk_below h.hG d, blk_below h.hg d, h.ne, h.gG, h.gg, below_on h.b d, s.1 _ _ h.q d⟩
theorem SW.set {w0 w w' : World} {G g : Nat} {a a' : Array Value} {Q : World → Prop} (h : SW w0 G g a Q w) (s : St Q) (hG : w'.heap[G]? = some (.cells a' 43 (0, 0))) (ho : Only G w w') : SW w0 G g a' Q w' :=
  ⟨hG, blk_only h.hg ho (Ne.symm h.ne), h.ne, h.gG, h.gg, ho.below h.gG h.b, s.2 _ _ _ _ h.q h.hG ho⟩
theorem SW.put {w0 w w' : World} {G g : Nat} {pc : Int} {rg fl : List Value} {tk rt : Int} {L L' : List Value} {Q : World → Prop} (h : SW w0 G g (cH pc rg fl tk rt L).toArray Q w) (s : St Q) (h1 : rg.length = 32) (h2 : fl.length = 9) (j : Nat) (v : Value) (hG : w'.heap[G]? = some (.cells ((cH pc rg fl tk rt L).toArray.setIfInBounds (44 + j) v) 43 (0, 0))) (ho : Only G w w') (hL : L.set j v = L') : SW w0 G g (cH pc rg fl tk rt L').toArray Q w' := by
  rw [cH_setL h1 h2, hL] at hG
  exact h.set s hG ho
theorem SW.put3 {w0 w w' : World} {G g : Nat} {pc : Int} {rg fl : List Value} {tk rt : Int} {L L' : List Value} {Q : World → Prop} (h : SW w0 G g (cH pc rg fl tk rt L).toArray Q w) (s : St Q) (h1 : rg.length = 32) (h2 : fl.length = 9) (j : Nat) (x y z : Value) (hG : w'.heap[G]? = some (.cells (putAt (cH pc rg fl tk rt L).toArray (44 + j) [x, y, z]) 43 (0, 0))) (ho : Only G w w') (hL : ((L.set j x).set (j + 1) y).set (j + 2) z = L') : SW w0 G g (cH pc rg fl tk rt L').toArray Q w' := by
  rw [putAt, putAt, putAt, putAt, cH_setL h1 h2, show 44 + j + 1 = 44 + (j + 1) from rfl, cH_setL h1 h2, show 44 + (j + 1) + 1 = 44 + (j + 2) from rfl, cH_setL h1 h2, hL] at hG
  exact h.set s hG ho
section
variable {w0 w w' : World} {G g : Nat} {pc : Int} {rg fl : List Value} {tk rt : Int} {Q : World → Prop} {ram rx ox ev rx' ox' : Value} {over over' : Bool} {came came' o m : Int} {s off off' : Bool} {code code' : Int}
theorem lt_sL (h1 : rg.length = 32) (h2 : fl.length = 9) {j : Nat} (hj : j < 55) : j < (cH pc rg fl tk rt (sL ram rx ox over came o m s off code ev)).toArray.size := by rw [cH_size h1 h2]; exact hj
theorem sz_sL (h1 : rg.length = 32) (h2 : fl.length = 9) : (cH pc rg fl tk rt (sL ram rx ox over came o m s off code ev)).toArray.size = 55 := by rw [cH_size h1 h2]; rfl
theorem SW.srx (h : SW w0 G g (cH pc rg fl tk rt (sL ram rx ox over came o m s off code ev)).toArray Q w) (s' : St Q) (h1 : rg.length = 32) (h2 : fl.length = 9) (hG : w'.heap[G]? = some (.cells ((cH pc rg fl tk rt (sL ram rx ox over came o m s off code ev)).toArray.setIfInBounds 45 (rx')) 43 (0, 0))) (ho : Only G w w') : SW w0 G g (cH pc rg fl tk rt (sL ram rx' ox over came o m s off code ev)).toArray Q w' := h.put s' h1 h2 1 _ hG ho rfl
theorem SW.sox (h : SW w0 G g (cH pc rg fl tk rt (sL ram rx ox over came o m s off code ev)).toArray Q w) (s' : St Q) (h1 : rg.length = 32) (h2 : fl.length = 9) (hG : w'.heap[G]? = some (.cells ((cH pc rg fl tk rt (sL ram rx ox over came o m s off code ev)).toArray.setIfInBounds 46 (ox')) 43 (0, 0))) (ho : Only G w w') : SW w0 G g (cH pc rg fl tk rt (sL ram rx ox' over came o m s off code ev)).toArray Q w' := h.put s' h1 h2 2 _ hG ho rfl
theorem SW.sov (h : SW w0 G g (cH pc rg fl tk rt (sL ram rx ox over came o m s off code ev)).toArray Q w) (s' : St Q) (h1 : rg.length = 32) (h2 : fl.length = 9) (hG : w'.heap[G]? = some (.cells ((cH pc rg fl tk rt (sL ram rx ox over came o m s off code ev)).toArray.setIfInBounds 47 (.bool over')) 43 (0, 0))) (ho : Only G w w') : SW w0 G g (cH pc rg fl tk rt (sL ram rx ox over' came o m s off code ev)).toArray Q w' := h.put s' h1 h2 3 _ hG ho rfl
theorem SW.sca (h : SW w0 G g (cH pc rg fl tk rt (sL ram rx ox over came o m s off code ev)).toArray Q w) (s' : St Q) (h1 : rg.length = 32) (h2 : fl.length = 9) (hG : w'.heap[G]? = some (.cells ((cH pc rg fl tk rt (sL ram rx ox over came o m s off code ev)).toArray.setIfInBounds 48 (.int .i64 came')) 43 (0, 0))) (ho : Only G w w') : SW w0 G g (cH pc rg fl tk rt (sL ram rx ox over came' o m s off code ev)).toArray Q w' := h.put s' h1 h2 4 _ hG ho rfl
theorem SW.sof (h : SW w0 G g (cH pc rg fl tk rt (sL ram rx ox over came o m s off code ev)).toArray Q w) (s' : St Q) (h1 : rg.length = 32) (h2 : fl.length = 9) (hG : w'.heap[G]? = some (.cells ((cH pc rg fl tk rt (sL ram rx ox over came o m s off code ev)).toArray.setIfInBounds 52 (.bool off')) 43 (0, 0))) (ho : Only G w w') : SW w0 G g (cH pc rg fl tk rt (sL ram rx ox over came o m s off' code ev)).toArray Q w' := h.put s' h1 h2 8 _ hG ho rfl
theorem SW.sco (h : SW w0 G g (cH pc rg fl tk rt (sL ram rx ox over came o m s off code ev)).toArray Q w) (s' : St Q) (h1 : rg.length = 32) (h2 : fl.length = 9) (hG : w'.heap[G]? = some (.cells ((cH pc rg fl tk rt (sL ram rx ox over came o m s off code ev)).toArray.setIfInBounds 53 (.int .u32 code')) 43 (0, 0))) (ho : Only G w w') : SW w0 G g (cH pc rg fl tk rt (sL ram rx ox over came o m s off code' ev)).toArray Q w' := h.put s' h1 h2 9 _ hG ho rfl
theorem SW.sti {o' m' : Int} {s2 : Bool} (h : SW w0 G g (cH pc rg fl tk rt (sL ram rx ox over came o m s off code ev)).toArray Q w) (s' : St Q) (h1 : rg.length = 32) (h2 : fl.length = 9) (hG : w'.heap[G]? = some (.cells (putAt (cH pc rg fl tk rt (sL ram rx ox over came o m s off code ev)).toArray 49 [.int .u64 o', .int .u64 m', .bool s2]) 43 (0, 0))) (ho : Only G w w') : SW w0 G g (cH pc rg fl tk rt (sL ram rx ox over came o' m' s2 off code ev)).toArray Q w' := h.put3 s' h1 h2 5 _ _ _ hG ho rfl
end
theorem SW.add {w0 w : World} {G g : Nat} {a : Array Value} {Q R : World → Prop} (h : SW w0 G g a Q w) (r : R w) : SW w0 G g a (fun w => Q w ∧ R w) w := ⟨h.hG, h.hg, h.ne, h.gG, h.gg, h.b, h.q, r⟩

set_option maxRecDepth 100000 in
theorem waits_own (w : World) {X : Nat → Prop} {C F : Nat} {av vo : Value} {al : List (Int × Int)} {came : Nat} {q : List Int} {over : Bool} {out : List Int} (h : IsCon w X C F av vo al came q over out) : Calls Try.prog 36 #[.pointer (some ⟨C, 0, none⟩)] w fun e w' => ∃ v, e = .returned v ∧ w'.ownsRow w.heap.size 5 1 v q.length (q.map (Value.int .u8)) ∧ Below w.heap.size w w' := by
  have c2 := h.c2
  have HF := Aside0.mk h.f
  clear h
  go_enter Try.func36, Try.ntmps36
  go_wp2_with fail
  refine (callsIn_wide.1 (all_in _ _ _ HF.out)).mono ?_
  rintro e w1 ⟨v, rfl, ho, b1⟩
  go_wp2_with fail
  go_ret
  exact ⟨v, rfl, ho, b1⟩
set_option maxRecDepth 100000 in
theorem out_own (w : World) {X : Nat → Prop} {C F : Nat} {av vo : Value} {al : List (Int × Int)} {came : Nat} {q : List Int} {over : Bool} {out : List Int} (h : IsCon w X C F av vo al came q over out) (ho : out.length ≤ 65536) : Calls Try.prog 37 #[.pointer (some ⟨C, 0, none⟩)] w fun e w' => ∃ v, e = .returned v ∧ w'.ownsRow w.heap.size 5 1 v out.length (out.map (Value.int .u8)) ∧ Below w.heap.size w w' := by
  have c4 := h.c4
  have HC := Aside0.mk (cloneb_owned w vo out ho h.o)
  clear h
  go_enter Try.func37, Try.ntmps37
  go_wp2_with fail
  refine HC.out.mono ?_
  rintro e w1 ⟨v, rfl, o1, b1⟩
  go_wp2_with fail
  go_ret
  exact ⟨v, rfl, o1, b1⟩
theorem own_brow {w : World} {g n base : Nat} {l : List Int} (h : w.heap[g]? = some (.cells (brow l) 5)) (hg : base ≤ g) (hn : l.length = n) (h1 : n ≤ 65536) (h0 : 0 < n) : w.ownsRow base 5 1 (.slice (some ⟨g, 0, none⟩) n n) n (l.map (Value.int .u8)) :=
  ⟨by simp [hn], .inr ⟨g, n, brow l, rfl, hg, h, Nat.le_refl _, by unfold maxLen; omega, by simp [brow, hn], by simp only [brow]; rw [List.take_of_length_le (by simp [hn])]⟩⟩

def postS (w0 : World) (g0 p : Nat) (pc : Int) (rg fl : List Value) (tk rt : Int) (B R : Nat) (ev : Value) (n : Nat) (l : List Int) (CL : Value → World → Prop) (i : Nat) (v : Value) (w : World) : Prop :=
  match i with
  | 0 => v = .pointer (some ⟨p, 0, none⟩)
  | 1 => v = .pointer (some ⟨p, 0, none⟩)
  | 2 => v = .pointer (some ⟨p, 0, none⟩)
  | 3 => v = .int .u32 pc
  | 4 => v = .pointer (some ⟨p, 0, none⟩)
  | 5 => v = .pointer (some ⟨p, 0, none⟩)
  | 6 => v = .pointer (some ⟨p, 1, none⟩)
  | 7 => v = .agg rg.toArray
  | 8 => v = .pointer (some ⟨p, 0, none⟩)
  | 9 => v = .pointer (some ⟨p, 0, none⟩)
  | 10 => v = .pointer (some ⟨p, 33, none⟩)
  | 11 => v = .agg fl.toArray
  | 12 => v = .pointer (some ⟨p, 0, none⟩)
  | 13 => v = .pointer (some ⟨p, 0, none⟩)
  | 14 => v = .pointer (some ⟨p, 42, none⟩)
  | 15 => v = .int .u64 tk
  | 16 => v = .pointer (some ⟨p, 0, none⟩)
  | 17 => v = .pointer (some ⟨p, 0, none⟩)
  | 18 => v = .pointer (some ⟨p, 43, none⟩)
  | 19 => v = .int .u64 rt
  | 20 => v = .pointer (some ⟨p, 0, none⟩)
  | 21 => v = .pointer (some ⟨p, 0, none⟩)
  | 22 => v = .pointer (some ⟨p, 44, none⟩)
  | 23 => v = .pointer (some ⟨B, 0, none⟩)
  | 24 => v = .pointer (some ⟨R, 0, none⟩)
  | 25 => ∃ g, v = .slice (some ⟨g, 0, none⟩) n n ∧ w.ownsRow w0.heap.size 5 1 v n (l.map (Value.int .u8))
  | 26 => v = .pointer (some ⟨p, 0, none⟩)
  | 27 => v = .pointer (some ⟨p, 0, none⟩)
  | 28 => v = .pointer (some ⟨p, 45, none⟩)
  | 29 => v = ev
  | 30 => (∃ A m c, v = .slice A m c) ∧ CL v w
  | 31 => ∃ g m A' m' c', w.ownsRow w0.heap.size 5 1 (.slice (some ⟨g, 0, none⟩) n n) n (l.map (Value.int .u8)) ∧ CL (.slice A' m' c') w ∧ m = n ∧ v = .agg (cH pc rg fl tk rt (sL (.slice (some ⟨g, 0, none⟩) n n) nl nl false 0 0 0 false false 0 (.slice A' m' c'))).toArray
  | 32 => ∃ g, v = .pointer (some ⟨g, 0, none⟩) ∧ w0.heap.size < g + 1 ∧ g0 < g ∧ w.heap[g]? = some (.cells zS 43 (0, 0))
  | _ => True
theorem postS_rg {w0 : World} {g0 p : Nat} {pc : Int} {rg fl : List Value} {tk rt : Int} {B R : Nat} {ev : Value} {n : Nat} {l : List Int} {CL : Value → World → Prop} (hCL : ∀ v, St (CL v)) (j : Nat) (v : Value) (w w' : World) (h : postS w0 g0 p pc rg fl tk rt B R ev n l CL j v w) (k : Below w.heap.size w w') : postS w0 g0 p pc rg fl tk rt B R ev n l CL j v w' := by
  unfold postS at h ⊢
  split at h
  all_goals first
    | exact h
    | (obtain ⟨g, h1, h2⟩ := h; exact ⟨g, h1, owns_below h2 k⟩)
    | (obtain ⟨h1, h2⟩ := h; exact ⟨h1, (hCL _).1 _ _ h2 k⟩)
    | (obtain ⟨g, m, A', m', c', h1, h2, h3, h4⟩ := h; exact ⟨g, m, A', m', c', owns_below h1 k, (hCL _).1 _ _ h2 k, h3, h4⟩)
    | (obtain ⟨g, h1, h2, h3, h4⟩ := h; exact ⟨g, h1, h2, h3, blk_below h4 k⟩)

set_option maxRecDepth 100000 in
set_option maxHeartbeats 8000000 in
/-- All that a machine has. -/
theorem cstate_apart {W w : World} {p : Nat} {pc : Int} {rg fl : List Value} {tk rt : Int} {ev : Value} {B R C T BB BW BG n k : Nat} {X : Nat → Prop} {l : List Int} {ws : List Bool} {gs : List Int} {al : List (Int × Int)} {came : Nat} {q : List Int} {over : Bool} {out : List Int} {o m : Int} {s off : Bool} {code : Int} (h : MC W w p pc rg fl tk rt ev B R C T BB BW BG n k X l ws gs al came q over out o m s off code) (CL : Value → World → Prop) (hCL : ∀ v, St (CL v))
    (hCE : ∀ w', Below w.heap.size w w' → Calls Try.prog 34 #[ev] w' fun e w'' => ∃ A m c, e = .returned (.slice A m c) ∧ CL (.slice A m c) w'' ∧ Below w'.heap.size w' w'') (hn0 : 0 < n) (hout : out.length ≤ 65536) :
    Calls Try.prog 10 #[.pointer (some ⟨p, 0, none⟩)] w fun e w' => ∃ vr vx vo ve, e = .returned (.agg (cH pc rg fl tk rt (sL vr vx vo over came o m s off code ve)).toArray) ∧
      w'.ownsRow w.heap.size 5 1 vr n (l.map (Value.int .u8)) ∧ w'.ownsRow w.heap.size 5 1 vx q.length (q.map (Value.int .u8)) ∧ w'.ownsRow w.heap.size 5 1 vo out.length (out.map (Value.int .u8)) ∧ CL ve w' ∧ (∃ A n c, ve = .slice A n c) ∧ Below w.heap.size w w' ∧ (∀ i, vx.ownBlock = some i → vr.ownBlock ≠ some i) ∧ (∀ i, vo.ownBlock = some i → vr.ownBlock ≠ some i) := by
  have HM := Aside0.mk h
  have HCE := Aside0.mk hCE
  have HCL := Aside0.mk hCL
  have HN0 := Aside0.mk hn0
  have HOU := Aside0.mk hout
  clear h hCE hCL hn0 hout
  go_enter Try.func10, Try.ntmps10
  obtain ⟨g0, hg0⟩ : ∃ g, w.heap.size = g := ⟨_, rfl⟩
  have HG0 := Aside0.mk hg0
  go_wp2_with (refine wpList_alloc_z rfl 43 rfl zS zS_zero ?_; rw [hg0]; clear hg0; intro w1 hb1 hB1; have HB1 := Aside0.mk hb1; have BB1 := Aside0.mk (show Below w.heap.size w w1 by rw [HG0.out]; exact hB1); have HM1 := Aside0.mk (HM.out.below BB1.out); clear hb1 hB1)
  have HI0 : Aside0 (Below w1.heap.size w1 w1.drew) := ⟨⟨rfl, rfl, rfl, Nat.le_refl _, fun _ _ => rfl⟩⟩
  have HI0' : Aside0 (Below w.heap.size w w1.drew) := ⟨BB1.out.trans (HI0.out.mono BB1.out.size)⟩
  have HGW : Aside0 (g0 < w1.heap.size) := ⟨blk_lt HB1.out⟩
  refine wp_region_rj (by kernel_rfl) 33 (fun W' => Below w1.heap.size w1 W') (fun x y => Below x.heap.size x y) (postS w1 g0 p pc rg fl tk rt B R ev n l CL) (by kernel_rfl) (postS_rg HCL.out) HI0.out ?step ?fin
  case step =>
    intro i o hi him b W' hinv hkeep hdef hpre K hK
    have HI := Aside0.mk hinv
    have HPRE := Aside0.mk hpre
    have HKEEP := Aside0.mk hkeep
    have HKK := Aside0.mk hK
    clear hinv hpre hkeep hK hdef
    obtain rfl | rfl | rfl | rfl | rfl | rfl | rfl | rfl | rfl | rfl | rfl | rfl | rfl | rfl | rfl | rfl | rfl | rfl | rfl | rfl | rfl | rfl | rfl | rfl | rfl | rfl | rfl | rfl | rfl | rfl | rfl | rfl | rfl : i = 0 ∨ i = 1 ∨ i = 2 ∨ i = 3 ∨ i = 4 ∨ i = 5 ∨ i = 6 ∨ i = 7 ∨ i = 8 ∨ i = 9 ∨ i = 10 ∨ i = 11 ∨ i = 12 ∨ i = 13 ∨ i = 14 ∨ i = 15 ∨ i = 16 ∨ i = 17 ∨ i = 18 ∨ i = 19 ∨ i = 20 ∨ i = 21 ∨ i = 22 ∨ i = 23 ∨ i = 24 ∨ i = 25 ∨ i = 26 ∨ i = 27 ∨ i = 28 ∨ i = 29 ∨ i = 30 ∨ i = 31 ∨ i = 32 := by omega
    · cases hi
      have e0 : b.tmps.getD 0 undef = .pointer (some ⟨p, 0, none⟩) := HKEEP.out 0 (by kernel_rfl)
      rw [if_pos (by rfl)]
      go_simp
      exact HKK.out _ _ HI.out (Below.refl _ _) (by first | rfl | (simp; done))
    · cases hi
      have e8 : b.tmps.getD 8 undef = .pointer (some ⟨p, 0, none⟩) := HPRE.out 0 (by kernel_rfl) (by omega)
      rw [if_pos (by rfl)]
      go_simp
      exact HKK.out _ _ HI.out (Below.refl _ _) (by first | rfl | (simp; done))
    · cases hi
      have e9 : b.tmps.getD 9 undef = .pointer (some ⟨p, 0, none⟩) := HPRE.out 1 (by kernel_rfl) (by omega)
      rw [if_pos (by rfl)]
      go_simp
      exact HKK.out _ _ HI.out (Below.refl _ _) (by first | rfl | (simp; done))
    · cases hi
      have e10 : b.tmps.getD 10 undef = .pointer (some ⟨p, 0, none⟩) := HPRE.out 2 (by kernel_rfl) (by omega)
      have hM := HM1.out.im.below HI.out
      have hc := hM.cpc
      rw [if_pos (by rfl)]
      go_simp
      exact HKK.out _ _ HI.out (Below.refl _ _) (by first | rfl | (simp; done))
    · cases hi
      have e0 : b.tmps.getD 0 undef = .pointer (some ⟨p, 0, none⟩) := HKEEP.out 0 (by kernel_rfl)
      rw [if_pos (by rfl)]
      go_simp
      exact HKK.out _ _ HI.out (Below.refl _ _) (by first | rfl | (simp; done))
    · cases hi
      have e12 : b.tmps.getD 12 undef = .pointer (some ⟨p, 0, none⟩) := HPRE.out 4 (by kernel_rfl) (by omega)
      rw [if_pos (by rfl)]
      go_simp
      exact HKK.out _ _ HI.out (Below.refl _ _) (by first | rfl | (simp; done))
    · cases hi
      have e13 : b.tmps.getD 13 undef = .pointer (some ⟨p, 0, none⟩) := HPRE.out 5 (by kernel_rfl) (by omega)
      rw [if_pos (by rfl)]
      go_simp
      exact HKK.out _ _ HI.out (Below.refl _ _) (by first | rfl | (simp; done))
    · cases hi
      have e14 : b.tmps.getD 14 undef = .pointer (some ⟨p, 1, none⟩) := HPRE.out 6 (by kernel_rfl) (by omega)
      have hM := HM1.out.im.below HI.out
      rw [if_pos (by rfl)]
      refine wp_load_mid 25 (.tmp 14) rfl p 1 e14 rg _ hM.rr Try.underlying25 rfl (by rw [hM.r]; kernel_rfl) ?_
      exact HKK.out _ _ HI.out (Below.refl _ _) rfl
    · cases hi
      have e0 : b.tmps.getD 0 undef = .pointer (some ⟨p, 0, none⟩) := HKEEP.out 0 (by kernel_rfl)
      rw [if_pos (by rfl)]
      go_simp
      exact HKK.out _ _ HI.out (Below.refl _ _) (by first | rfl | (simp; done))
    · cases hi
      have e16 : b.tmps.getD 16 undef = .pointer (some ⟨p, 0, none⟩) := HPRE.out 8 (by kernel_rfl) (by omega)
      rw [if_pos (by rfl)]
      go_simp
      exact HKK.out _ _ HI.out (Below.refl _ _) (by first | rfl | (simp; done))
    · cases hi
      have e17 : b.tmps.getD 17 undef = .pointer (some ⟨p, 0, none⟩) := HPRE.out 9 (by kernel_rfl) (by omega)
      rw [if_pos (by rfl)]
      go_simp
      exact HKK.out _ _ HI.out (Below.refl _ _) (by first | rfl | (simp; done))
    · cases hi
      have e18 : b.tmps.getD 18 undef = .pointer (some ⟨p, 33, none⟩) := HPRE.out 10 (by kernel_rfl) (by omega)
      have hM := HM1.out.im.below HI.out
      rw [if_pos (by rfl)]
      refine wp_load_mid 39 (.tmp 18) rfl p 33 e18 fl _ hM.rf Try.underlying39 rfl (by rw [hM.f]; kernel_rfl) ?_
      exact HKK.out _ _ HI.out (Below.refl _ _) rfl
    · cases hi
      have e0 : b.tmps.getD 0 undef = .pointer (some ⟨p, 0, none⟩) := HKEEP.out 0 (by kernel_rfl)
      rw [if_pos (by rfl)]
      go_simp
      exact HKK.out _ _ HI.out (Below.refl _ _) (by first | rfl | (simp; done))
    · cases hi
      have e20 : b.tmps.getD 20 undef = .pointer (some ⟨p, 0, none⟩) := HPRE.out 12 (by kernel_rfl) (by omega)
      rw [if_pos (by rfl)]
      go_simp
      exact HKK.out _ _ HI.out (Below.refl _ _) (by first | rfl | (simp; done))
    · cases hi
      have e21 : b.tmps.getD 21 undef = .pointer (some ⟨p, 0, none⟩) := HPRE.out 13 (by kernel_rfl) (by omega)
      rw [if_pos (by rfl)]
      go_simp
      exact HKK.out _ _ HI.out (Below.refl _ _) (by first | rfl | (simp; done))
    · cases hi
      have e22 : b.tmps.getD 22 undef = .pointer (some ⟨p, 42, none⟩) := HPRE.out 14 (by kernel_rfl) (by omega)
      have hM := HM1.out.im.below HI.out
      have hc := hM.ctk
      rw [if_pos (by rfl)]
      go_simp
      exact HKK.out _ _ HI.out (Below.refl _ _) (by first | rfl | (simp; done))
    · cases hi
      have e0 : b.tmps.getD 0 undef = .pointer (some ⟨p, 0, none⟩) := HKEEP.out 0 (by kernel_rfl)
      rw [if_pos (by rfl)]
      go_simp
      exact HKK.out _ _ HI.out (Below.refl _ _) (by first | rfl | (simp; done))
    · cases hi
      have e24 : b.tmps.getD 24 undef = .pointer (some ⟨p, 0, none⟩) := HPRE.out 16 (by kernel_rfl) (by omega)
      rw [if_pos (by rfl)]
      go_simp
      exact HKK.out _ _ HI.out (Below.refl _ _) (by first | rfl | (simp; done))
    · cases hi
      have e25 : b.tmps.getD 25 undef = .pointer (some ⟨p, 0, none⟩) := HPRE.out 17 (by kernel_rfl) (by omega)
      rw [if_pos (by rfl)]
      go_simp
      exact HKK.out _ _ HI.out (Below.refl _ _) (by first | rfl | (simp; done))
    · cases hi
      have e26 : b.tmps.getD 26 undef = .pointer (some ⟨p, 43, none⟩) := HPRE.out 18 (by kernel_rfl) (by omega)
      have hM := HM1.out.im.below HI.out
      have hc := hM.crt
      rw [if_pos (by rfl)]
      go_simp
      exact HKK.out _ _ HI.out (Below.refl _ _) (by first | rfl | (simp; done))
    · cases hi
      have e0 : b.tmps.getD 0 undef = .pointer (some ⟨p, 0, none⟩) := HKEEP.out 0 (by kernel_rfl)
      rw [if_pos (by rfl)]
      go_simp
      exact HKK.out _ _ HI.out (Below.refl _ _) (by first | rfl | (simp; done))
    · cases hi
      have e28 : b.tmps.getD 28 undef = .pointer (some ⟨p, 0, none⟩) := HPRE.out 20 (by kernel_rfl) (by omega)
      rw [if_pos (by rfl)]
      go_simp
      exact HKK.out _ _ HI.out (Below.refl _ _) (by first | rfl | (simp; done))
    · cases hi
      have e29 : b.tmps.getD 29 undef = .pointer (some ⟨p, 0, none⟩) := HPRE.out 21 (by kernel_rfl) (by omega)
      rw [if_pos (by rfl)]
      go_simp
      exact HKK.out _ _ HI.out (Below.refl _ _) (by first | rfl | (simp; done))
    · cases hi
      have e30 : b.tmps.getD 30 undef = .pointer (some ⟨p, 44, none⟩) := HPRE.out 22 (by kernel_rfl) (by omega)
      have hM := HM1.out.im.below HI.out
      have hc := hM.cb
      rw [if_pos (by rfl)]
      go_simp
      exact HKK.out _ _ HI.out (Below.refl _ _) (by first | rfl | (simp; done))
    · cases hi
      have e31 : b.tmps.getD 31 undef = .pointer (some ⟨B, 0, none⟩) := HPRE.out 23 (by kernel_rfl) (by omega)
      rw [if_pos (by rfl)]
      go_simp
      refine (bram_calls _ (HM1.out.ib.b.below HI.out)).mono ?_
      rintro e W2 ⟨rfl, d⟩
      exact HKK.out _ _ (below_on HI.out d.below) d.below rfl
    · cases hi
      have e32 : b.tmps.getD 32 undef = .pointer (some ⟨R, 0, none⟩) := HPRE.out 24 (by kernel_rfl) (by omega)
      rw [if_pos (by rfl)]
      go_simp
      refine (bytes_calls _ (HM1.out.ib.r.below HI.out) HM1.out.ib.n0).mono ?_
      rintro e W2 ⟨rfl, hb, d⟩
      exact HKK.out _ _ (below_on HI.out d) d ⟨_, rfl, own_brow hb HI.out.size HM1.out.ib.r.nl HM1.out.ib.n0 HN0.out⟩
    · cases hi
      have e0 : b.tmps.getD 0 undef = .pointer (some ⟨p, 0, none⟩) := HKEEP.out 0 (by kernel_rfl)
      rw [if_pos (by rfl)]
      go_simp
      exact HKK.out _ _ HI.out (Below.refl _ _) (by first | rfl | (simp; done))
    · cases hi
      have e34 : b.tmps.getD 34 undef = .pointer (some ⟨p, 0, none⟩) := HPRE.out 26 (by kernel_rfl) (by omega)
      rw [if_pos (by rfl)]
      go_simp
      exact HKK.out _ _ HI.out (Below.refl _ _) (by first | rfl | (simp; done))
    · cases hi
      have e35 : b.tmps.getD 35 undef = .pointer (some ⟨p, 0, none⟩) := HPRE.out 27 (by kernel_rfl) (by omega)
      rw [if_pos (by rfl)]
      go_simp
      exact HKK.out _ _ HI.out (Below.refl _ _) (by first | rfl | (simp; done))
    · cases hi
      have e36 : b.tmps.getD 36 undef = .pointer (some ⟨p, 45, none⟩) := HPRE.out 28 (by kernel_rfl) (by omega)
      have hM := HM1.out.im.below HI.out
      have hc := hM.cev
      rw [if_pos (by rfl)]
      go_simp
      exact HKK.out _ _ HI.out (Below.refl _ _) (by first | rfl | (simp; done))
    · cases hi
      have e37 : b.tmps.getD 37 undef = ev := HPRE.out 29 (by kernel_rfl) (by omega)
      rw [if_pos (by rfl)]
      go_simp
      refine (HCE.out _ (BB1.out.trans (HI.out.mono BB1.out.size))).mono ?_
      rintro e W2 ⟨A, m, c, rfl, hc, d⟩
      exact HKK.out _ _ (below_on HI.out d) d ⟨⟨A, m, c, rfl⟩, hc⟩
    · cases hi
      have e11 : b.tmps.getD 11 undef = .int .u32 pc := HPRE.out 3 (by kernel_rfl) (by omega)
      have e23 : b.tmps.getD 23 undef = .int .u64 tk := HPRE.out 15 (by kernel_rfl) (by omega)
      have e27 : b.tmps.getD 27 undef = .int .u64 rt := HPRE.out 19 (by kernel_rfl) (by omega)
      have e15 : b.tmps.getD 15 undef = .agg rg.toArray := HPRE.out 7 (by kernel_rfl) (by omega)
      have e19 : b.tmps.getD 19 undef = .agg fl.toArray := HPRE.out 11 (by kernel_rfl) (by omega)
      obtain ⟨g, e33, ho⟩ := HPRE.out 25 (by kernel_rfl) (by omega)
      obtain ⟨⟨A, m, c, e38⟩, hcl⟩ := HPRE.out 30 (by kernel_rfl) (by omega)
      have e33 : b.tmps.getD 33 undef = .slice (some ⟨g, 0, none⟩) n n := e33
      have e38 : b.tmps.getD 38 undef = .slice A m c := e38
      change W'.ownsRow w1.heap.size 5 1 (b.tmps.getD 33 undef) n (l.map (Value.int .u8)) at ho
      rw [e33] at ho
      change CL (b.tmps.getD 38 undef) W' at hcl
      rw [e38] at hcl
      rw [if_pos (by rfl)]
      refine wp_build_eq 43 #[(0, .tmp 11), (1, .tmp 15), (2, .tmp 19), (3, .tmp 23), (4, .tmp 27), (5, .tmp 33), (13, .tmp 38)] rfl (cH pc rg fl tk rt (sL (.slice (some ⟨g, 0, none⟩) n n) nl nl false 0 0 0 false false 0 (.slice A m c))).toArray ?_ ?_
      rotate_left
      · exact HKK.out _ _ HI.out (Below.refl _ _) ⟨g, n, A, m, c, ho, hcl, rfl, rfl⟩
      · simp only [List.map_toArray, List.map_cons, List.map_nil]
        rw [show b.eval (.tmp 11) = _ from e11, show b.eval (.tmp 15) = _ from e15, show b.eval (.tmp 19) = _ from e19, show b.eval (.tmp 23) = _ from e23, show b.eval (.tmp 27) = _ from e27, show b.eval (.tmp 33) = _ from e33, show b.eval (.tmp 38) = _ from e38]
        exact st_built HM1.out.im.r HM1.out.im.f _ _ _ _ _ _
    · cases hi
      rw [if_pos (by rfl)]
      refine wp_alloc_z 43 rfl zS zS_zero ?_
      intro W2 h2 d2
      exact HKK.out _ _ (below_on HI.out d2) d2 ⟨_, rfl, by have := HI.out.size; omega, by have := HI.out.size; have := HGW.out; omega, h2⟩
  case fin =>
    intro b W' hinv hsz hdef hkeep hpost
    obtain ⟨gr, mr, A', m', c', ho, hcl, h38, h39⟩ := hpost 31 (by omega)
    obtain ⟨G, h3, hG1, hG2, hG3⟩ := hpost 32 (by omega)
    have e39 : b.tmps.getD 39 undef = .agg (cH pc rg fl tk rt (sL (.slice (some ⟨gr, 0, none⟩) n n) nl nl false 0 0 0 false false 0 (.slice A' m' c'))).toArray := h39
    have e3 : b.tmps.getD 3 undef = .pointer (some ⟨G, 0, none⟩) := h3
    clear h3 h39 h38
    have k0 : b.tmps.getD 0 undef = .pointer (some ⟨p, 0, none⟩) := hkeep 0 (by kernel_rfl)
    have k2 : b.tmps.getD 2 undef = .pointer (some ⟨g0, 0, none⟩) := hkeep 2 (by kernel_rfl)
    refine rj_lastv (by kernel_rfl) rfl (by kernel_rfl) rfl (by kernel_rfl) ?_
    refine wp_store_arr 43 (.tmp 3) (.tmp 39) rfl G e3 _ e39 zS 43 hG3 (by rw [zS_size, cH_size HM1.out.im.r HM1.out.im.f]; rfl) (by rw [cH_size HM1.out.im.r HM1.out.im.f]; exact st_size) (cH_one HM1.out.im.r1 HM1.out.im.f1 (by simp [sL, nl, Value.oneCell'])) ?_
    intro w2 hf hoG
    have HW2 : Aside0 (SW w G g0 (cH pc rg fl tk rt (sL (.slice (some ⟨gr, 0, none⟩) n n) nl nl false 0 0 0 false false 0 (.slice A' m' c'))).toArray (fun w' => w'.ownsRow w.heap.size 5 1 (.slice (some ⟨gr, 0, none⟩) n n) n (l.map (Value.int .u8)) ∧ CL (.slice A' m' c') w') w2) :=
      ⟨⟨hf, blk_only (blk_below HB1.out hinv) hoG (by omega), by omega, by have := BB1.out.size; omega, by have := HG0.out; omega, hoG.below (by have := BB1.out.size; omega) (BB1.out.trans (hinv.mono BB1.out.size)),
        st_own.2 _ _ _ _ (con_zero_base ho BB1.out.size) hG3 hoG, (HCL.out _).2 _ _ _ _ hcl hG3 hoG⟩⟩
    have HST : Aside0 (St (fun w' => w'.ownsRow w.heap.size 5 1 (.slice (some ⟨gr, 0, none⟩) n n) n (l.map (Value.int .u8)) ∧ CL (.slice A' m' c') w')) := ⟨st_own.and (HCL.out _)⟩
    obtain ⟨sl, hlit, hsl⟩ := act_let b 76 hsz
    rw [hdef] at hlit
    rw [← hsl] at k0 k2 e3
    simp only [show List.range 76 = [0, 1, 2, 3, 4, 5, 6, 7, 8, 9, 10, 11, 12, 13, 14, 15, 16, 17, 18, 19, 20, 21, 22, 23, 24, 25, 26, 27, 28, 29, 30, 31, 32, 33, 34, 35, 36, 37, 38, 39, 40, 41, 42, 43, 44, 45, 46, 47, 48, 49, 50, 51, 52, 53, 54, 55, 56, 57, 58, 59, 60, 61, 62, 63, 64, 65, 66, 67, 68, 69, 70, 71, 72, 73, 74, 75] from rfl, List.map_cons, List.map_nil, e3, k0, k2] at hlit
    rw [hlit]
    clear hkeep hsz hdef hpost e39 e3 k0 k2 hsl hlit hinv hf hoG hG1 hG2 hG3 ho hcl
    obtain ⟨Q0, hQ0⟩ : ∃ Q : World → Prop, Q = (fun w' : World => w'.ownsRow w.heap.size 5 1 (.slice (some ⟨gr, 0, none⟩) n n) n (l.map (Value.int .u8)) ∧ CL (.slice A' m' c') w') := ⟨_, rfl⟩
    rw [← hQ0] at HW2 HST
    have HQ0 := Aside0.mk hQ0
    clear hQ0
    have HM2 := Aside0.mk (HM.out.below HW2.out.b)
    clear HM1 HB1 BB1 HI0 HI0' HGW HCE HCL
    have hcb := HM2.out.im.cb
    go_simp
    go_wp2_with fail
    refine (bcon_calls _ HM2.out.ib.b).mono ?_
    rintro e w3 ⟨rfl, d⟩
    have HW3 := Aside0.mk (HW2.out.below HST.out d.below)
    have HM3 := Aside0.mk (HM.out.below HW3.out.b)
    clear HM2 HW2 hcb d
    go_wp2_with fail
    obtain ⟨F, av, vo, hi⟩ := HM3.out.ib.c.1
    refine (waits_own _ hi).mono ?_
    rintro e w4 ⟨v4, rfl, o4, d⟩
    obtain ⟨A4, c4, rfl⟩ := owns_form o4
    have D4 := Aside0.mk (fun i (hi' : (Value.slice A4 q.length c4).ownBlock = some i) => (by
      have hq := HW3.out.q
      rw [HQ0.out] at hq
      have h1 := (hq.1.lt gr rfl).2
      have h2 := (o4.lt i hi').1
      intro h3
      have h4 : gr = i := by simpa [Value.ownBlock] using h3
      omega : (Value.slice (some ⟨gr, 0, none⟩) n n).ownBlock ≠ some i))
    have HW4 := Aside0.mk ((HW3.out.below HST.out d).add (R := fun w' => w'.ownsRow w.heap.size 5 1 (.slice A4 q.length c4) q.length (q.map (Value.int .u8))) (con_zero_base o4 HW3.out.b.size))
    have HST4 := Aside0.mk (HST.out.and (st_own (base := w.heap.size) (v := .slice A4 q.length c4) (n := q.length) (xs := q.map (Value.int .u8))))
    have HM4 := Aside0.mk (HM.out.below HW4.out.b)
    clear HM3 HW3 o4 d hi HST
    obtain ⟨Q4, hQ4⟩ : ∃ Q : World → Prop, Q = (fun w' : World => Q0 w' ∧ w'.ownsRow w.heap.size 5 1 (.slice A4 q.length c4) q.length (q.map (Value.int .u8))) := ⟨_, rfl⟩
    rw [← hQ4] at HW4 HST4
    have HQ4 := Aside0.mk hQ4
    clear hQ4
    go_wp2_with fail
    obtain ⟨F, av, vo, hi⟩ := HM4.out.ib.c.1
    refine (out_own _ hi HOU.out).mono ?_
    rintro e w5 ⟨v5, rfl, o5, d⟩
    obtain ⟨A5, c5, rfl⟩ := owns_form o5
    have D5 := Aside0.mk (fun i (hi' : (Value.slice A5 out.length c5).ownBlock = some i) => (by
      have hq := HW4.out.q
      rw [HQ4.out, HQ0.out] at hq
      have h1 := (hq.1.1.lt gr rfl).2
      have h2 := (o5.lt i hi').1
      intro h3
      have h4 : gr = i := by simpa [Value.ownBlock] using h3
      omega : (Value.slice (some ⟨gr, 0, none⟩) n n).ownBlock ≠ some i))
    have HW5 := Aside0.mk ((HW4.out.below HST4.out d).add (R := fun w' => w'.ownsRow w.heap.size 5 1 (.slice A5 out.length c5) out.length (out.map (Value.int .u8))) (con_zero_base o5 HW4.out.b.size))
    have HST5 := Aside0.mk (HST4.out.and (st_own (base := w.heap.size) (v := .slice A5 out.length c5) (n := out.length) (xs := out.map (Value.int .u8))))
    have HM5 := Aside0.mk (HM.out.below HW5.out.b)
    clear HM4 HW4 o5 d hi HST4
    obtain ⟨Q5, hQ5⟩ : ∃ Q : World → Prop, Q = (fun w' : World => Q4 w' ∧ w'.ownsRow w.heap.size 5 1 (.slice A5 out.length c5) out.length (out.map (Value.int .u8))) := ⟨_, rfl⟩
    rw [← hQ5] at HW5 HST5
    have HQ5 := Aside0.mk hQ5
    clear hQ5
    go_wp2_with fail
    refine (kc_over HM5.out.ib.c).mono ?_
    rintro e w6 ⟨rfl, d⟩
    have HW6 := Aside0.mk (HW5.out.below HST5.out d.below)
    have HM6 := Aside0.mk (HM.out.below HW6.out.b)
    clear HM5 HW5 d
    go_wp2_with fail
    refine (kc_came HM6.out.ib.c).mono ?_
    rintro e w7 ⟨rfl, d⟩
    have HW7 := Aside0.mk (HW6.out.below HST5.out d.below)
    have HM7 := Aside0.mk (HM.out.below HW7.out.b)
    clear HM6 HW6 d
    have HMR := Aside0.mk HM.out.im.r
    have HMF := Aside0.mk HM.out.im.f
    go_wp2_with (first
      | (refine wpList_store_cell rfl 40 (.tmp 53) (.tmp 46) rfl G 45 (.slice A4 q.length c4) rfl rfl rfl _ 43 HW7.out.hG (lt_sL HMR.out HMF.out (by decide)) (by kernel_rfl) ?_; intro w8 hf ho; have HW8 : Aside0 (SW w G g0 (cH pc rg fl tk rt (sL (.slice (some ⟨gr, 0, none⟩) n n) (.slice A4 q.length c4) nl false 0 0 0 false false 0 (.slice A' m' c'))).toArray Q5 w8) := ⟨HW7.out.put HST5.out HMR.out HMF.out 1 (.slice A4 q.length c4) hf ho rfl⟩; have HM8 := Aside0.mk (HM.out.below HW8.out.b); have hcb8 := HM8.out.im.cb; clear hf ho HW7)
      | (refine wpList_store_cell rfl 40 (.tmp 54) (.tmp 48) rfl G 46 (.slice A5 out.length c5) rfl rfl rfl _ 43 HW8.out.hG (lt_sL HMR.out HMF.out (by decide)) (by kernel_rfl) ?_; intro w9 hf ho; have HW9 : Aside0 (SW w G g0 (cH pc rg fl tk rt (sL (.slice (some ⟨gr, 0, none⟩) n n) (.slice A4 q.length c4) (.slice A5 out.length c5) false 0 0 0 false false 0 (.slice A' m' c'))).toArray Q5 w9) := ⟨HW8.out.put HST5.out HMR.out HMF.out 2 (.slice A5 out.length c5) hf ho rfl⟩; have HM9 := Aside0.mk (HM.out.below HW9.out.b); have hcb9 := HM9.out.im.cb; clear hf ho HW8)
      | (refine wpList_store_cell rfl 4 (.tmp 55) (.tmp 50) rfl G 47 (.bool over) rfl rfl rfl _ 43 HW9.out.hG (lt_sL HMR.out HMF.out (by decide)) (by kernel_rfl) ?_; intro w10 hf ho; have HW10 : Aside0 (SW w G g0 (cH pc rg fl tk rt (sL (.slice (some ⟨gr, 0, none⟩) n n) (.slice A4 q.length c4) (.slice A5 out.length c5) over 0 0 0 false false 0 (.slice A' m' c'))).toArray Q5 w10) := ⟨HW9.out.put HST5.out HMR.out HMF.out 3 (.bool over) hf ho rfl⟩; have HM10 := Aside0.mk (HM.out.below HW10.out.b); have hcb10 := HM10.out.im.cb; clear hf ho HW9)
      | (refine wpList_store_cell rfl 3 (.tmp 56) (.tmp 52) rfl G 48 (.int .i64 (came : Int)) rfl rfl rfl _ 43 HW10.out.hG (lt_sL HMR.out HMF.out (by decide)) (by kernel_rfl) ?_; intro w11 hf ho; have HW11 : Aside0 (SW w G g0 (cH pc rg fl tk rt (sL (.slice (some ⟨gr, 0, none⟩) n n) (.slice A4 q.length c4) (.slice A5 out.length c5) over came 0 0 false false 0 (.slice A' m' c'))).toArray Q5 w11) := ⟨HW10.out.put HST5.out HMR.out HMF.out 4 (.int .i64 (came : Int)) hf ho rfl⟩; have HM11 := Aside0.mk (HM.out.below HW11.out.b); have hcb11 := HM11.out.im.cb; clear hf ho HW10))
    clear HM7 HM8 HM9 HM10 hcb8 hcb9 hcb10
    refine (btim_calls _ HM11.out.ib.b).mono ?_
    rintro e w12 ⟨rfl, d⟩
    have HW12 := Aside0.mk (HW11.out.below HST5.out d.below)
    have HM12 := Aside0.mk (HM.out.below HW12.out.b)
    clear HM11 HW11 d hcb11
    go_wp2_with (first
      | ((with_reducible refine gate_dst (N := 63) rfl ?_); refine wpList_load_arr rfl 41 (.tmp 62) rfl T rfl #[.int .u64 o, .int .u64 m, .bool s] HM12.out.ib.t _ Try.underlying41 rfl (by kernel_rfl) ?_)
      | ((with_reducible refine gate_store (t := 41) (p := 64) (v := .tmp 63) rfl ?_); refine wpList_store_part rfl 41 (.tmp 64) (.tmp 63) rfl G 49 #[.int .u64 o, .int .u64 m, .bool s] rfl rfl (by simp [Value.oneCell']) _ 43 HW12.out.hG (by rw [sz_sL HMR.out HMF.out]; exact (by decide : 52 ≤ 55)) (show (Try.prog.info? 41).map (·.size) = some 3 by kernel_rfl) ?_; intro w13 hf ho; have HW13 : Aside0 (SW w G g0 (cH pc rg fl tk rt (sL (.slice (some ⟨gr, 0, none⟩) n n) (.slice A4 q.length c4) (.slice A5 out.length c5) over came o m s false 0 (.slice A' m' c'))).toArray Q5 w13) := ⟨HW12.out.sti HST5.out HMR.out HMF.out hf ho⟩; have HM13 := Aside0.mk (HM.out.below HW13.out.b); have hcb13 := HM13.out.im.cb; clear hf ho HW12))
    clear HM12
    refine (boff_calls _ HM13.out.ib.b).mono ?_
    rintro e w14 ⟨rfl, d⟩
    have HW14 := Aside0.mk (HW13.out.below HST5.out d.below)
    have HM14 := Aside0.mk (HM.out.below HW14.out.b)
    clear HM13 HW13 d hcb13
    go_wp2_with (first
      | (refine wpList_store_cell rfl 24 (.tmp 73) (.tmp 71) rfl G 53 (.int .u32 code) rfl rfl rfl _ 43 HW14.out.hG (lt_sL HMR.out HMF.out (by decide)) (by kernel_rfl) ?_; intro w15 hf ho; have HW15 : Aside0 (SW w G g0 (cH pc rg fl tk rt (sL (.slice (some ⟨gr, 0, none⟩) n n) (.slice A4 q.length c4) (.slice A5 out.length c5) over came o m s false code (.slice A' m' c'))).toArray Q5 w15) := ⟨HW14.out.put HST5.out HMR.out HMF.out 9 (.int .u32 code) hf ho rfl⟩; have HM15 := Aside0.mk (HM.out.below HW15.out.b); have hcb15 := HM15.out.im.cb; clear hf ho HW14)
      | (refine wpList_store_cell rfl 4 (.tmp 74) (.tmp 72) rfl G 52 (.bool off) rfl rfl rfl _ 43 HW15.out.hG (lt_sL HMR.out HMF.out (by decide)) (by kernel_rfl) ?_; intro w16 hf ho; have HW16 : Aside0 (SW w G g0 (cH pc rg fl tk rt (sL (.slice (some ⟨gr, 0, none⟩) n n) (.slice A4 q.length c4) (.slice A5 out.length c5) over came o m s off code (.slice A' m' c'))).toArray Q5 w16) := ⟨HW15.out.put HST5.out HMR.out HMF.out 8 (.bool off) hf ho rfl⟩; have HM16 := Aside0.mk (HM.out.below HW16.out.b); have hcb16 := HM16.out.im.cb; clear hf ho HW15)
      | ((with_reducible refine gate_dst (N := 75) rfl ?_); refine wpList_load_arr rfl 43 (.tmp 3) rfl G rfl _ HW16.out.hG _ Try.underlying43 rfl (by rw [cH_size HMR.out HMF.out]; exact st_size) ?_)
      | ((with_reducible refine gate_store (t := 43) (p := 2) (v := .tmp 75) rfl ?_); refine wpList_store_arr rfl 43 (.tmp 2) (.tmp 75) rfl g0 rfl (cH pc rg fl tk rt (sL (.slice (some ⟨gr, 0, none⟩) n n) (.slice A4 q.length c4) (.slice A5 out.length c5) over came o m s off code (.slice A' m' c'))).toArray rfl zS 43 HW16.out.hg (by rw [zS_size, cH_size HMR.out HMF.out]; rfl) (by rw [cH_size HMR.out HMF.out]; exact st_size) (cH_one HM.out.im.r1 HM.out.im.f1 (by simp [sL, nl, Value.oneCell'])) ?_; intro w17 hf ho; have HF17 := Aside0.mk hf; have HO17 := Aside0.mk ho; clear hf ho))
    have q5 := HST5.out.2 _ _ _ _ HW16.out.q HW16.out.hg HO17.out
    rw [HQ5.out, HQ4.out, HQ0.out] at q5
    obtain ⟨⟨⟨r1, r2⟩, r3⟩, r4⟩ := q5
    refine bodyPost_ret (results_cell_row rfl _ _ g0 43 (cH pc rg fl tk rt (sL (.slice (some ⟨gr, 0, none⟩) n n) (.slice A4 q.length c4) (.slice A5 out.length c5) over came o m s off code (.slice A' m' c'))).toArray (0, 0) _ rfl HF17.out Try.underlying43 rfl (by rw [cH_size HMR.out HMF.out]; exact st_size)) rfl ⟨_, _, _, _, rfl, r1, r3, r4, r2, ⟨_, _, _, rfl⟩, HO17.out.below HW16.out.gg HW16.out.b, D4.out, D5.out⟩
theorem cstate_ok {W w : World} {p : Nat} {pc : Int} {rg fl : List Value} {tk rt : Int} {ev : Value} {B R C T BB BW BG n k : Nat} {X : Nat → Prop} {l : List Int} {ws : List Bool} {gs : List Int} {al : List (Int × Int)} {came : Nat} {q : List Int} {over : Bool} {out : List Int} {o m : Int} {s off : Bool} {code : Int} (h : MC W w p pc rg fl tk rt ev B R C T BB BW BG n k X l ws gs al came q over out o m s off code) (CL : Value → World → Prop) (hCL : ∀ v, St (CL v))
    (hCE : ∀ w', Below w.heap.size w w' → Calls Try.prog 34 #[ev] w' fun e w'' => ∃ A m c, e = .returned (.slice A m c) ∧ CL (.slice A m c) w'' ∧ Below w'.heap.size w' w'') (hn0 : 0 < n) (hout : out.length ≤ 65536) :
    Calls Try.prog 10 #[.pointer (some ⟨p, 0, none⟩)] w fun e w' => ∃ vr vx vo ve, e = .returned (.agg (cH pc rg fl tk rt (sL vr vx vo over came o m s off code ve)).toArray) ∧
      w'.ownsRow w.heap.size 5 1 vr n (l.map (Value.int .u8)) ∧ w'.ownsRow w.heap.size 5 1 vx q.length (q.map (Value.int .u8)) ∧ w'.ownsRow w.heap.size 5 1 vo out.length (out.map (Value.int .u8)) ∧ CL ve w' ∧ (∃ A n c, ve = .slice A n c) ∧ Below w.heap.size w w' :=
  (cstate_apart h CL hCL hCE hn0 hout).mono fun e w' ⟨vr, vx, vo, ve, h1, h2, h3, h4, h5, h6, h7, _⟩ => ⟨vr, vx, vo, ve, h1, h2, h3, h4, h5, h6, h7⟩
end Go.Proofs.Ytfnbpmkbjbibkaa

namespace Go.Proofs.Ytfnbpmkbjbibkaa
open Go Go.RowKit Go.Deep Go.Great Go.Proofs.YtfnbpmkbjbibkaaW.PrintWords Go.Proofs.Ytfnbpmkbjbibkaa.QCpuSame
set_option linter.unusedVariables false
set_option linter.unusedSimpArgs false

section
variable {P : Program}
/-- Guarded operations, their guard met. -/
theorem wpListW_load_arr {ops : Array Oper} {Q : Exit → Act → World → Prop} {rest : List Oper} {op : Oper} {a : Act} {w : World} (hw : Region.wanted op (yielded ops a.tmps) = true) (ty : TypeId) (x : Operand) (ho : op.op = .load ty x)
    (b : Nat) (hx : a.eval x = .pointer (some ⟨b, 0, none⟩)) (cs : Array Value) {t : Nat} {z : Nat × Nat} (H : w.heap[b]? = some (.cells cs t z)) (d : TypeDesc)
    (hu : P.underlying ty = some d) (hd : d.isRow = true) (hi : (P.info? ty).map (·.size) = some cs.size)
    (h : wpList P ops Q rest (a.put op.dst (.agg cs)) w) : wpList P ops Q (op :: rest) a w := Go.BigFrame.wpList_want hw fun K hK => wp_load_arr ty x ho b hx cs H d hu hd hi (hK _ _ h)
theorem wpListW_build {ops : Array Oper} {Q : Exit → Act → World → Prop} {rest : List Oper} {o : Oper} {a : Act} {w : World} (hw : Region.wanted o (yielded ops a.tmps) = true) (t : TypeId) (parts : Array (Nat × Operand)) (ho : o.op = .build t parts) (cells : Array Value)
    (hc : P.built t (parts.map fun (i, x) => (i, a.eval x)).toList = some cells) (h : wpList P ops Q rest (a.put o.dst (.agg cells)) w) : wpList P ops Q (o :: rest) a w := Go.BigFrame.wpList_want hw fun K hK => wp_build_eq t parts ho cells hc (hK _ _ h)
theorem wpListW_eql_flat {ops : Array Oper} {Q : Exit → Act → World → Prop} {rest : List Oper} {o : Oper} {a : Act} {w : World} (hw : Region.wanted o (yielded ops a.tmps) = true) (t yt : TypeId) (x y : Operand) (ho : o.op = .binOp .eql t x y yt) (ks : List (Option IntKind)) (hk : kindsOf P 20 t = some ks) (ha : (match P.underlying t with | some (.struct _) | some (.array _ _) => true | _ => false) = true)
    (hm : P.eqGuardType P.depth t = false) (xs ys : List Value) (hx : a.eval x = .agg xs.toArray) (hy : a.eval y = .agg ys.toArray) (fx : Fits ks xs) (fy : Fits ks ys) (h : ∀ b, (b = true ↔ xs = ys) → wpList P ops Q rest (a.put o.dst (.bool b)) w) : wpList P ops Q (o :: rest) a w :=
  Go.BigFrame.wpList_want hw fun K hK => wp_eql_flat t yt x y ho ks hk ha hm xs ys hx hy fx fy fun b hb => hK _ _ (h b hb)
theorem wpListW_neq_flat {ops : Array Oper} {Q : Exit → Act → World → Prop} {rest : List Oper} {o : Oper} {a : Act} {w : World} (hw : Region.wanted o (yielded ops a.tmps) = true) (t yt : TypeId) (x y : Operand) (ho : o.op = .binOp .neq t x y yt) (ks : List (Option IntKind)) (hk : kindsOf P 20 t = some ks) (ha : (match P.underlying t with | some (.struct _) | some (.array _ _) => true | _ => false) = true)
    (hm : P.eqGuardType P.depth t = false) (xs ys : List Value) (hx : a.eval x = .agg xs.toArray) (hy : a.eval y = .agg ys.toArray) (fx : Fits ks xs) (fy : Fits ks ys) (h : ∀ b, (b = true ↔ xs = ys) → wpList P ops Q rest (a.put o.dst (.bool (!b))) w) : wpList P ops Q (o :: rest) a w :=
  Go.BigFrame.wpList_want hw fun K hK => wp_neq_flat t yt x y ho ks hk ha hm xs ys hx hy fx fy fun b hb => hK _ _ (h b hb)
end
section
variable {P : Program}
theorem wpListW_load_mid {ops : Array Oper} {rest : List Oper} {op : Oper} {a : Act} {w : World} {Q : Exit → Act → World → Prop} (hw : Region.wanted op (yielded ops a.tmps) = true) (ty : TypeId) (x : Operand) (ho : op.op = .load ty x)
    (b o : Nat) (hx : a.eval x = .pointer (some ⟨b, o, none⟩)) (cs : List Value) (d : TypeDesc) (hc : w.rangeAt b o cs)
    (hu : P.underlying ty = some d) (hd : d.isRow = true) (hi : (P.info? ty).map (·.size) = some cs.length)
    (h : wpList P ops Q rest (a.put op.dst (.agg cs.toArray)) w) : wpList P ops Q (op :: rest) a w :=
  Go.BigFrame.wpList_want hw fun _ hK => wp_load_mid ty x ho b o hx cs d hc hu hd hi (hK _ _ h)
theorem wpListW_neq_same {ops : Array Oper} {Q : Exit → Act → World → Prop} {rest : List Oper} {o : Oper} {a : Act} {w : World} (hw : Region.wanted o (yielded ops a.tmps) = true) (t yt : TypeId) (x y : Operand) (ho : o.op = .binOp .neq t x y yt) (ks : List (Option IntKind)) (hk : kindsOf P 20 t = some ks) (ha : (match P.underlying t with | some (.struct _) | some (.array _ _) => true | _ => false) = true)
    (hm : P.eqGuardType P.depth t = false) (xs : List Value) (hx : a.eval x = .agg xs.toArray) (hy : a.eval y = .agg xs.toArray) (fx : Fits ks xs) (h : wpList P ops Q rest (a.put o.dst (.bool false)) w) : wpList P ops Q (o :: rest) a w :=
  wpListW_neq_flat hw t yt x y ho ks hk ha hm xs xs hx hy fx fx fun b hb => by
    obtain rfl : b = true := hb.2 rfl
    exact h
end
def kF : List (Option IntKind) := List.replicate 7 (some .u32) ++ [some .u64, some .u64]
def pL (over off : Bool) (came o m : Int) (s : Bool) (code : Int) : List Value := [.bool over, .bool off, .int .i64 came, .int .u64 o, .int .u64 m, .bool s, .int .u32 code]
def zP : Array Value := (cH 0 rZ fZ 0 0 (pL false false 0 0 0 false 0)).toArray
theorem zP_zero : (Try.prog.info? 102).bind (fun i => i.zero.map (·.cells)) = some zP := by kernel_rfl
theorem zP_size : zP.size = 51 := by rw [zP, cH_size rZ_len fZ_len]; rfl
theorem pl_size : (Try.prog.info? 102).map (·.size) = some 51 := by kernel_rfl
section
variable {pc : Int} {rg fl : List Value} {tk rt : Int} {L : List Value}
theorem cH_put3 (h1 : rg.length = 32) (h2 : fl.length = 9) (j : Nat) (x y z : Value) : putAt (cH pc rg fl tk rt L).toArray (44 + j) [x, y, z] = (cH pc rg fl tk rt (((L.set j x).set (j + 1) y).set (j + 2) z)).toArray := by
  rw [putAt, putAt, putAt, putAt, cH_setL h1 h2, show 44 + j + 1 = 44 + (j + 1) from rfl, cH_setL h1 h2, show 44 + (j + 1) + 1 = 44 + (j + 2) from rfl, cH_setL h1 h2]
theorem pl_built (h1 : rg.length = 32) (h2 : fl.length = 9) (over off : Bool) (came o m : Int) (s : Bool) (code : Int) : Try.prog.built 102 [(0, .int .u32 pc), (1, .agg rg.toArray), (2, .agg fl.toArray), (3, .int .u64 tk), (4, .int .u64 rt), (5, .bool over), (6, .bool off), (7, .int .i64 came), (8, .agg #[.int .u64 o, .int .u64 m, .bool s]), (9, .int .u32 code)] =
    some (cH pc rg fl tk rt (pL over off came o m s code)).toArray := by
  rw [built_struct zP_zero Try.underlying102 (places := [(0, 1), (1, 32), (33, 9), (42, 1), (43, 1), (44, 1), (45, 1), (46, 1), (47, 3), (50, 1)]) (by kernel_rfl)]
  rw [fill_put (off := 0) (size := 1) rfl rfl (by rw [zP_size]; omega)]
  rw [fill_put (off := 1) (size := 32) rfl (by simpa [Value.cells] using h1) (by simp only [putAt_size]; rw [zP_size]; omega)]
  rw [fill_put (off := 33) (size := 9) rfl (by simpa [Value.cells] using h2) (by simp only [putAt_size]; rw [zP_size]; omega)]
  rw [fill_put (off := 42) (size := 1) rfl rfl (by simp only [putAt_size]; rw [zP_size]; omega)]
  rw [fill_put (off := 43) (size := 1) rfl rfl (by simp only [putAt_size]; rw [zP_size]; omega)]
  rw [fill_put (off := 44) (size := 1) rfl rfl (by simp only [putAt_size]; rw [zP_size]; omega)]
  rw [fill_put (off := 45) (size := 1) rfl rfl (by simp only [putAt_size]; rw [zP_size]; omega)]
  rw [fill_put (off := 46) (size := 1) rfl rfl (by simp only [putAt_size]; rw [zP_size]; omega)]
  rw [fill_put (off := 47) (size := 3) rfl rfl (by simp only [putAt_size]; rw [zP_size]; omega)]
  rw [fill_put (off := 50) (size := 1) rfl rfl (by simp only [putAt_size]; rw [zP_size]; omega)]
  simp only [Instr.fill, Value.cells, putAt_one]
  rw [zP, cH_setP]
  rw [cH_putR rZ_len fZ_len rg h1]
  rw [cH_putF h1 fZ_len fl h2]
  rw [cH_setT h1 h2, cH_setI h1 h2]
  rw [show (44 : Nat) = 44 + 0 from rfl, cH_setL h1 h2, show (45 : Nat) = 44 + 1 from rfl, cH_setL h1 h2, show (46 : Nat) = 44 + 2 from rfl, cH_setL h1 h2, show (47 : Nat) = 44 + 3 from rfl, cH_put3 h1 h2, show (50 : Nat) = 44 + 6 from rfl, cH_setL h1 h2]
  rfl
theorem at_P {w : World} {B t : Nat} {z : Nat × Nat} (H : w.heap[B]? = some (.cells (cH pc rg fl tk rt L).toArray t z)) : w.cell? ⟨B, 0, none⟩ = some (.int .u32 pc) := (cell_of_row w B 0 _ _ _ H).trans rfl
theorem at_T {w : World} {B t : Nat} {z : Nat × Nat} (H : w.heap[B]? = some (.cells (cH pc rg fl tk rt L).toArray t z)) (h1 : rg.length = 32) (h2 : fl.length = 9) : w.cell? ⟨B, 42, none⟩ = some (.int .u64 tk) ∧ w.cell? ⟨B, 43, none⟩ = some (.int .u64 rt) := by
  constructor
  · rw [cell_of_row w B 42 _ _ _ H, List.getElem?_toArray]; exact cH_t h1 h2 0
  · rw [cell_of_row w B 43 _ _ _ H, List.getElem?_toArray]; exact cH_t h1 h2 1
theorem at_L {w : World} {B t : Nat} {z : Nat × Nat} (H : w.heap[B]? = some (.cells (cH pc rg fl tk rt L).toArray t z)) (h1 : rg.length = 32) (h2 : fl.length = 9) (j : Nat) {v : Value} (hv : L[j]? = some v) : w.cell? ⟨B, 44 + j, none⟩ = some v := by
  rw [cell_of_row w B _ _ _ _ H, List.getElem?_toArray, cH_L h1 h2, hv]
set_option maxRecDepth 100000 in
set_option maxHeartbeats 2000000 in
theorem cplain_calls (w : World) (h1 : rg.length = 32) (h2 : fl.length = 9) (o1 : ∀ v ∈ rg, v.oneCell' = true) (o2 : ∀ v ∈ fl, v.oneCell' = true) (ram rx ox ev : Value) (over off : Bool) (came o m : Int) (s : Bool) (code : Int) :
    Calls Try.prog 41 #[.agg (cH pc rg fl tk rt (sL ram rx ox over came o m s off code ev)).toArray] w fun e w' => e = .returned (.agg (cH pc rg fl tk rt (pL over off came o m s code)).toArray) ∧ Below w.heap.size w w' := by
  have H1 := Aside0.mk h1
  have H2 := Aside0.mk h2
  have O1 := Aside0.mk o1
  have O2 := Aside0.mk o2
  clear h1 h2 o1 o2
  obtain ⟨B, hB⟩ : ∃ B, w.heap.size = B := ⟨_, rfl⟩
  have HBS := Aside0.mk hB
  go_enter Try.func41, Try.ntmps41
  go_upto_region 1 with (first
    | (refine wpList_alloc_z rfl 102 rfl zP zP_zero ?_; intro w2 hb2 hB2; have HB2 := Aside0.mk hb2; have BB2 := Aside0.mk hB2; clear hb2 hB2))
  have HX2 := Aside0.mk (blk_below (by have := blk_new w (.cells (cH pc rg fl tk rt (sL ram rx ox over came o m s off code ev)).toArray 43); rw [hB] at this; exact this) BB2.out)
  have BW2 : Aside0 (Below w.heap.size w w2) := ⟨below_on (below_alloc (Below.refl w.heap.size w) _) BB2.out⟩
  have HGS : Aside0 (w.heap.size ≤ (w.alloc (.cells (cH pc rg fl tk rt (sL ram rx ox over came o m s off code ev)).toArray 43)).heap.size) := ⟨by simp⟩
  clear hB BB2
  generalize (w.alloc (.cells (cH pc rg fl tk rt (sL ram rx ox over came o m s off code ev)).toArray 43)).heap.size = G at HB2 HGS ⊢
  have c0 := at_P HX2.out
  have c42 := (at_T HX2.out H1.out H2.out).1
  have c43 := (at_T HX2.out H1.out H2.out).2
  have c47 : w2.cell? ⟨B, 47, none⟩ = some (.bool over) := at_L HX2.out H1.out H2.out 3 rfl
  have c48 : w2.cell? ⟨B, 48, none⟩ = some (.int .i64 came) := at_L HX2.out H1.out H2.out 4 rfl
  have c52 : w2.cell? ⟨B, 52, none⟩ = some (.bool off) := at_L HX2.out H1.out H2.out 8 rfl
  have c53 : w2.cell? ⟨B, 53, none⟩ = some (.int .u32 code) := at_L HX2.out H1.out H2.out 9 rfl
  go_simp
  go_wp2_with (first
    | ((with_reducible refine gate_dst (N := 6) rfl ?_); refine wpList_load_mid rfl 25 (.tmp 5) rfl B 1 rfl rg _ (range_in HX2.out 1 rg (cH_r H1.out H2.out)) Try.underlying25 rfl (by rw [H1.out]; kernel_rfl) ?_)
    | ((with_reducible refine gate_dst (N := 8) rfl ?_); refine wpList_load_mid rfl 39 (.tmp 7) rfl B 33 rfl fl _ (range_in HX2.out 33 fl (cH_f H1.out H2.out)) Try.underlying39 rfl (by rw [H2.out]; kernel_rfl) ?_)
    | ((with_reducible refine gate_dst (N := 20) rfl ?_); refine wpList_load_mid rfl 41 (.tmp 19) rfl B 49 rfl [.int .u64 o, .int .u64 m, .bool s] _ (range_in HX2.out 49 _ (fun j v hv => by rw [show 49 + j = 44 + (5 + j) by omega, cH_L H1.out H2.out]; rcases j with _ | _ | _ | j <;> simp_all [sL])) Try.underlying41 rfl (by kernel_rfl) ?_)
    | ((with_reducible refine gate_dst (N := 23) rfl ?_); refine wpList_buildTo rfl 102 #[(0, Operand.tmp 4), (1, Operand.tmp 6), (2, Operand.tmp 8), (3, Operand.tmp 10), (4, Operand.tmp 12), (5, Operand.tmp 14), (6, Operand.tmp 16), (7, Operand.tmp 18), (8, Operand.tmp 20), (9, Operand.tmp 22)] rfl (some 23) rfl (cH pc rg fl tk rt (pL over off came o m s code)).toArray (by simp only [List.map_toArray, List.map_cons, List.map_nil]; exact pl_built (pc := pc) (tk := tk) (rt := rt) H1.out H2.out over off came o m s code) ?_)
    | ((with_reducible refine gate_store (t := 102) (p := 2) (v := .tmp 23) rfl ?_); refine wpList_store_arr rfl 102 (.tmp 2) (.tmp 23) rfl G rfl (cH pc rg fl tk rt (pL over off came o m s code)).toArray rfl zP 102 HB2.out (by rw [zP_size, cH_size H1.out H2.out]; rfl) (by rw [cH_size H1.out H2.out]; exact pl_size) (cH_one O1.out O2.out (by simp [pL, Value.oneCell'])) ?_; intro w3 hf ho; have HF3 := Aside0.mk hf; have HO3 := Aside0.mk ho; clear hf ho))
  refine bodyPost_ret (results_cell_row rfl _ _ G 102 (cH pc rg fl tk rt (pL over off came o m s code)).toArray (0, 0) _ rfl HF3.out Try.underlying102 rfl (by rw [cH_size H1.out H2.out]; exact pl_size)) rfl ⟨rfl, HO3.out.below HGS.out BW2.out⟩
end
end Go.Proofs.Ytfnbpmkbjbibkaa
