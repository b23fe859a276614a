/-
  '==' at a struct, and a struct as a map's key: that of its cells.
-/
import Derived.Test.YtfnbgfmmlgbfjaaGreatDoorAiTop
import Derived.Laws.StructEq
import Derived.ChangeKeysEq
namespace Go.Ai

def ksFields (rec_ : TypeId → Option (List CK)) : List Field → Nat → Option (List CK)
  | [], _ => some []
  | f :: fs, off =>
    if f.name ≠ "_" ∧ f.offset = off then
      match rec_ f.type with
      | some ks => (ksFields rec_ fs (off + ks.length)).map fun r => ks ++ r
      | none => none
    else none

def ksRep : Nat → List CK → List CK
  | 0, _ => []
  | n + 1, ks => ks ++ ksRep n ks
theorem ksRep_length (ks : List CK) : ∀ n, (ksRep n ks).length = n * ks.length
  | 0 => by simp [ksRep]
  | n + 1 => by simp [ksRep, ksRep_length ks n, Nat.add_mul]; omega

def ksAt (P : Program) : Nat → TypeId → Option (List CK)
  | 0, _ => none
  | d + 1, t =>
    match P.underlying t, P.info? t with
    | some .bool, some i => if i.size = 1 then some [.bool] else none
    | some (.int k), some i => if i.size = 1 then some [.int k] else none
    | some .string, some i => if i.size = 1 then some [.string] else none
    | some (.struct fs), some i =>
      if P.stoodInHeld t then none else
      match ksFields (ksAt P d) fs.toList 0 with
      | some ks => if i.size = ks.length then some ks else none
      | none => none
    | some (.array len elem), some i =>
      match ksAt P d elem with
      | some ks => if i.size = len * ks.length then some (ksRep len ks) else none
      | none => none
    | _, _ => none

theorem fitsK_length : ∀ {ks : List CK} {vs : List Value}, fitsK ks vs = true → vs.length = ks.length
  | [], [], _ => rfl
  | [], _ :: _, h => by simp [fitsK] at h
  | _ :: _, [], h => by simp [fitsK] at h
  | k :: ks, v :: vs, h => by
    simp only [fitsK, Bool.and_eq_true] at h
    simp [fitsK_length h.2]
theorem fitsK_append : ∀ {ks ks' : List CK} {vs : List Value}, fitsK (ks ++ ks') vs = true → fitsK ks (vs.take ks.length) = true ∧ fitsK ks' (vs.drop ks.length) = true
  | [], ks', vs, h => by simpa [fitsK] using h
  | k :: ks, ks', [], h => by simp [fitsK] at h
  | k :: ks, ks', v :: vs, h => by
    simp only [List.cons_append, fitsK, Bool.and_eq_true] at h
    obtain ⟨h1, h2⟩ := fitsK_append h.2
    simp only [List.length_cons, List.take_succ_cons, List.drop_succ_cons, fitsK, Bool.and_eq_true]
    exact ⟨⟨h.1, h1⟩, h2⟩
theorem cellsEq_split : ∀ (n : Nat) {xs ys : List Value} {b : Bool}, cellsEq xs ys = some b → ∃ b1 b2, cellsEq (xs.take n) (ys.take n) = some b1 ∧ cellsEq (xs.drop n) (ys.drop n) = some b2 ∧ b = (b1 && b2)
  | 0, xs, ys, b, h => ⟨true, b, by simp [cellsEq], by simpa using h, by simp⟩
  | n + 1, [], [], b, h => by
    have : b = true := by simpa [cellsEq] using h.symm
    exact ⟨true, true, by simp [cellsEq], by simp [cellsEq], by simp [this]⟩
  | n + 1, [], _ :: _, b, h => by simp [cellsEq] at h
  | n + 1, _ :: _, [], b, h => by simp [cellsEq] at h
  | n + 1, x :: xs, y :: ys, b, h => by
    unfold cellsEq at h
    split at h
    · rename_i a c ha hc
      obtain rfl := Option.some.inj h
      obtain ⟨b1, b2, h1, h2, rfl⟩ := cellsEq_split n hc
      exact ⟨a && b1, b2, by simp [cellsEq, ha, h1], by simpa using h2, by simp [Bool.and_assoc]⟩
    · cases h

section
variable {P : Program}

/-- a value of the type's outer form -/
def formed (P : Program) (t : TypeId) (x : Value) : Prop :=
  match P.underlying t with
  | some (.struct _) | some (.array _ _) => ∃ cs, x = .agg cs
  | _ => ∀ cs, x ≠ .agg cs ∧ x ≠ .tuple cs

def EqS (P : Program) (m : Nat) (t : TypeId) (ks : List CK) : Prop :=
  ∀ (d : Nat) (x y : Value) (b : Bool) (w : World), formed P t x → formed P t y → fitsK ks x.cells.toList = true → fitsK ks y.cells.toList = true → cellsEq x.cells.toList y.cells.toList = some b → (Op.equalIn (d + m) t x y).run P w = .ok b w
def KeyS (P : Program) (m : Nat) (t : TypeId) (ks : List CK) : Prop :=
  ∀ (d : Nat) (x : Value) (e : Bool) (w : World), formed P t x → fitsK ks x.cells.toList = true → (Instr.checkKey e (d + m) t x).run P w = .ok () w

theorem ks_info {m : Nat} {t : TypeId} {ks : List CK} (h : ksAt P m t = some ks) : ∃ i desc, P.info? t = some i ∧ P.underlying t = some desc ∧ i.size = ks.length ∧ ((∃ fs, desc = .struct fs) ∨ (∃ n e, desc = .array n e) ∨ (ks.length = 1 ∧ ((desc = .bool ∧ ks = [.bool]) ∨ (∃ k, desc = .int k ∧ ks = [.int k]) ∨ (desc = .string ∧ ks = [.string])))) := by
  cases m with
  | zero => cases h
  | succ m =>
    unfold ksAt at h
    split at h
    · rename_i i hu hi
      split at h
      · rename_i hs; obtain rfl := Option.some.inj h
        exact ⟨i, _, hi, hu, hs, .inr (.inr ⟨rfl, .inl ⟨rfl, rfl⟩⟩)⟩
      · cases h
    · rename_i k i hu hi
      split at h
      · rename_i hs; obtain rfl := Option.some.inj h
        exact ⟨i, _, hi, hu, hs, .inr (.inr ⟨rfl, .inr (.inl ⟨k, rfl, rfl⟩)⟩)⟩
      · cases h
    · rename_i i hu hi
      split at h
      · rename_i hs; obtain rfl := Option.some.inj h
        exact ⟨i, _, hi, hu, hs, .inr (.inr ⟨rfl, .inr (.inr ⟨rfl, rfl⟩)⟩)⟩
      · cases h
    · rename_i fs i hu hi
      split at h
      · cases h
      · split at h
        · split at h
          · rename_i hs; obtain rfl := Option.some.inj h
            exact ⟨i, _, hi, hu, hs, .inl ⟨fs, rfl⟩⟩
          · cases h
        · cases h
    · rename_i n e i hu hi
      split at h
      · split at h
        · rename_i ks' _ hs; obtain rfl := Option.some.inj h
          exact ⟨i, _, hi, hu, by rw [hs, ksRep_length], .inr (.inl ⟨n, e, rfl⟩)⟩
        · cases h
      · cases h
    · cases h

theorem run_part_ks {m : Nat} {t : TypeId} {ks : List CK} (h : ksAt P m t = some ks) (xs : Array Value) (off : Nat) (w : World) (hf : fitsK ks ((xs.toList.drop off).take ks.length) = true) :
    ∃ v, (part t xs off).run P w = .ok v w ∧ formed P t v ∧ v.cells.toList = (xs.toList.drop off).take ks.length := by
  obtain ⟨i, desc, hi, hu, hs, hd⟩ := ks_info h
  have hun : (underlying t).run P w = .ok desc w := by simp [underlying, hu]
  rcases hd with ⟨fs, rfl⟩ | ⟨n, e, rfl⟩ | ⟨h1, hd⟩
  · refine ⟨.agg (xs.extract off (off + ks.length)), ?_, ?_, ?_⟩
    · have hsz : (sizeOf t).run P w = .ok ks.length w := by simp [sizeOf, typeInfo, hi, hs]
      simp only [part, isAgg, Sem.run_bind, hun, Result.andThen_ok, Sem.run_pure, if_true, hsz]
    · unfold formed; rw [hu]; exact ⟨_, rfl⟩
    · simp [Value.cells, List.extract_eq_take_drop]
  · refine ⟨.agg (xs.extract off (off + ks.length)), ?_, ?_, ?_⟩
    · have hsz : (sizeOf t).run P w = .ok ks.length w := by simp [sizeOf, typeInfo, hi, hs]
      simp only [part, isAgg, Sem.run_bind, hun, Result.andThen_ok, Sem.run_pure, if_true, hsz]
    · unfold formed; rw [hu]; exact ⟨_, rfl⟩
    · simp [Value.cells, List.extract_eq_take_drop]
  · have hl := fitsK_length hf
    rw [h1] at hl hf
    obtain ⟨v, hv⟩ : ∃ v, (xs.toList.drop off).take 1 = [v] := List.length_eq_one_iff.1 hl
    have hget : xs[off]? = some v := by
      have : ((xs.toList.drop off).take 1)[0]? = some v := by rw [hv]; rfl
      rw [List.getElem?_take_of_lt (by omega), List.getElem?_drop] at this
      simpa using this
    have hna : (isAgg t).run P w = .ok false w := by
      simp only [isAgg, Sem.run_bind, hun, Result.andThen_ok]
      rcases hd with ⟨rfl, _⟩ | ⟨k, rfl, _⟩ | ⟨rfl, _⟩ <;> rfl
    rw [hv] at hf
    have hpl : (∀ cs, v ≠ .agg cs ∧ v ≠ .tuple cs) ∧ v.cells = #[v] := by
      rcases hd with ⟨_, rfl⟩ | ⟨k, _, rfl⟩ | ⟨_, rfl⟩ <;> (cases v <;> simp_all [fitsK, CK.fits, Value.cells])
    refine ⟨v, ?_, ?_, ?_⟩
    · simp only [part, Sem.run_bind, hna, Result.andThen_ok, Bool.false_eq_true, if_false, hget, Sem.run_pure]
    · unfold formed; rw [hu]
      rcases hd with ⟨rfl, _⟩ | ⟨k, rfl, _⟩ | ⟨rfl, _⟩ <;> exact hpl.1
    · rw [h1, hv, hpl.2]

theorem eqFields_ks {m : Nat} (IH : ∀ t ks, ksAt P m t = some ks → EqS P m t ks) (d : Nat) (xs ys : Array Value) : ∀ (fs : List Field) (off : Nat) (ks : List CK) (b : Bool) (w : World), ksFields (ksAt P m) fs off = some ks →
    fitsK ks (xs.toList.drop off) = true → fitsK ks (ys.toList.drop off) = true → cellsEq (xs.toList.drop off) (ys.toList.drop off) = some b → (Op.eqFields (d + m) xs ys fs).run P w = .ok b w
  | [], off, ks, b, w, h, hx, hy, he => by
    obtain rfl := Option.some.inj h
    have h1 := fitsK_length hx
    have h2 := fitsK_length hy
    have e1 : xs.toList.drop off = [] := List.length_eq_zero_iff.1 (by simpa using h1)
    have e2 : ys.toList.drop off = [] := List.length_eq_zero_iff.1 (by simpa using h2)
    rw [e1, e2] at he
    have : b = true := by simpa [cellsEq] using he.symm
    subst this
    rfl
  | f :: fs, off, ks, b, w, h, hx, hy, he => by
    unfold ksFields at h
    split at h
    · rename_i hf
      split at h
      · rename_i k1 hk1
        rw [Option.map_eq_some_iff] at h
        obtain ⟨k2, hk2, rfl⟩ := h
        obtain ⟨hx1, hx2⟩ := fitsK_append hx
        obtain ⟨hy1, hy2⟩ := fitsK_append hy
        obtain ⟨b1, b2, e1, e2, rfl⟩ := cellsEq_split k1.length he
        obtain ⟨v, p1, p2, p3⟩ := run_part_ks hk1 xs off w hx1
        obtain ⟨v', q1, q2, q3⟩ := run_part_ks hk1 ys off w hy1
        have r := IH _ _ hk1 d v v' b1 w p2 q2 (by rw [p3]; exact hx1) (by rw [q3]; exact hy1) (by rw [p3, q3]; exact e1)
        simp only [Op.eqFields]
        rw [if_pos hf.1, hf.2]
        simp only [Sem.run_bind, p1, q1, r, Result.andThen_ok]
        cases b1 with
        | false => simp
        | true =>
          rw [List.drop_drop] at hx2 hy2 e2
          rw [List.drop_drop] at e2
          simp only [Bool.not_true, Bool.false_eq_true, if_false, Bool.true_and]
          exact eqFields_ks IH d xs ys fs (off + k1.length) k2 b2 w hk2 hx2 hy2 e2
      · cases h
    · cases h

theorem cellsOf_ks {m : Nat} {t : TypeId} {ks : List CK} (h : ksAt P m t = some ks) : P.cellsOf t = ks.length ∧ ∃ i, P.info? t = some i := by
  obtain ⟨i, _, hi, _, hs, _⟩ := ks_info h
  exact ⟨by simp [Program.cellsOf, hi, hs], i, hi⟩

theorem eqItems_ks {m : Nat} (IH : ∀ t ks, ksAt P m t = some ks → EqS P m t ks) (d : Nat) {e : TypeId} {k1 : List CK} (hk1 : ksAt P m e = some k1) (xs ys : Array Value) : ∀ (len j : Nat) (b : Bool) (w : World),
    fitsK (ksRep len k1) (xs.toList.drop (j * k1.length)) = true → fitsK (ksRep len k1) (ys.toList.drop (j * k1.length)) = true → cellsEq (xs.toList.drop (j * k1.length)) (ys.toList.drop (j * k1.length)) = some b →
    (Op.eqItems (d + m) e k1.length xs ys (List.range' j len)).run P w = .ok b w
  | 0, j, b, w, hx, hy, he => by
    have h1 := fitsK_length hx
    have h2 := fitsK_length hy
    have e1 : xs.toList.drop (j * k1.length) = [] := List.length_eq_zero_iff.1 (by simpa [ksRep] using h1)
    have e2 : ys.toList.drop (j * k1.length) = [] := List.length_eq_zero_iff.1 (by simpa [ksRep] using h2)
    rw [e1, e2] at he
    have : b = true := by simpa [cellsEq] using he.symm
    subst this
    rfl
  | len + 1, j, b, w, hx, hy, he => by
    unfold ksRep at hx hy
    obtain ⟨hx1, hx2⟩ := fitsK_append hx
    obtain ⟨hy1, hy2⟩ := fitsK_append hy
    obtain ⟨b1, b2, e1, e2, rfl⟩ := cellsEq_split k1.length he
    obtain ⟨v, p1, p2, p3⟩ := run_part_ks hk1 xs (j * k1.length) w hx1
    obtain ⟨v', q1, q2, q3⟩ := run_part_ks hk1 ys (j * k1.length) w hy1
    have r := IH _ _ hk1 d v v' b1 w p2 q2 (by rw [p3]; exact hx1) (by rw [q3]; exact hy1) (by rw [p3, q3]; exact e1)
    rw [List.range'_succ]
    simp only [Op.eqItems, Sem.run_bind, p1, q1, r, Result.andThen_ok]
    cases b1 with
    | false => simp
    | true =>
      rw [List.drop_drop, show j * k1.length + k1.length = (j + 1) * k1.length from by rw [Nat.succ_mul]] at hx2 hy2
      rw [List.drop_drop, List.drop_drop, show j * k1.length + k1.length = (j + 1) * k1.length from by rw [Nat.succ_mul]] at e2
      simp only [Bool.not_true, Bool.false_eq_true, if_false, Bool.true_and]
      exact eqItems_ks IH d hk1 xs ys len (j + 1) b2 w hx2 hy2 e2

theorem plain_of {c : CK} {x : Value} (hf : ∀ cs, x ≠ .agg cs ∧ x ≠ .tuple cs) (h : fitsK [c] x.cells.toList = true) : x.cells = #[x] ∧ c.fits x = true := by
  have e : x.cells = #[x] := by
    cases x <;> first
      | rfl
      | exact absurd rfl (hf _).1
      | exact absurd rfl (hf _).2
  rw [e] at h
  exact ⟨e, by simpa [fitsK] using h⟩
theorem fits_bool {x : Value} (h : CK.bool.fits x = true) : ∃ b, x = .bool b := by
  cases x <;> first | exact ⟨_, rfl⟩ | cases h
theorem fits_string {x : Value} (h : CK.string.fits x = true) : ∃ b, x = .string b := by
  cases x <;> first | exact ⟨_, rfl⟩ | cases h
theorem fits_int {k : IntKind} {x : Value} (h : (CK.int k).fits x = true) : ∃ n, x = .int k n := by
  cases x <;> first
    | cases h; done
    | (simp only [CK.fits, decide_eq_true_eq] at h; subst h; exact ⟨_, rfl⟩)
    | cases h

theorem eq_ks : ∀ (m : Nat) (t : TypeId) (ks : List CK), ksAt P m t = some ks → EqS P m t ks
  | 0, _, _, h => by cases h
  | m + 1, t, ks, h => by
    intro d x y b w fx fy hx hy he
    have h0 := h
    unfold ksAt at h
    split at h
    · rename_i i hu hi
      split at h
      · obtain rfl := Option.some.inj h
        unfold formed at fx fy
        rw [hu] at fx fy
        obtain ⟨ex, hx1⟩ := plain_of fx hx
        obtain ⟨ey, hy1⟩ := plain_of fy hy
        rw [ex, ey] at he
        obtain ⟨a, rfl⟩ := fits_bool hx1
        obtain ⟨c, rfl⟩ := fits_bool hy1
        rw [show d + (m + 1) = (d + m) + 1 from rfl]
        simp only [cellsEq, cellEq, Bool.and_true, Option.some.injEq] at he
        subst he
        exact run_equalIn_bool w (d + m) t a c hu
      · cases h
    · rename_i k i hu hi
      split at h
      · obtain rfl := Option.some.inj h
        unfold formed at fx fy
        rw [hu] at fx fy
        obtain ⟨ex, hx1⟩ := plain_of fx hx
        obtain ⟨ey, hy1⟩ := plain_of fy hy
        rw [ex, ey] at he
        obtain ⟨a, rfl⟩ := fits_int hx1
        obtain ⟨c, rfl⟩ := fits_int hy1
        rw [show d + (m + 1) = (d + m) + 1 from rfl]
        simp only [cellsEq, cellEq, if_true, Bool.and_true, Option.some.injEq] at he
        subst he
        exact run_equalIn_int w (d + m) t k k a c hu
      · cases h
    · rename_i i hu hi
      split at h
      · obtain rfl := Option.some.inj h
        unfold formed at fx fy
        rw [hu] at fx fy
        obtain ⟨ex, hx1⟩ := plain_of fx hx
        obtain ⟨ey, hy1⟩ := plain_of fy hy
        rw [ex, ey] at he
        obtain ⟨a, rfl⟩ := fits_string hx1
        obtain ⟨c, rfl⟩ := fits_string hy1
        rw [show d + (m + 1) = (d + m) + 1 from rfl]
        simp only [cellsEq, cellEq, Bool.and_true, Option.some.injEq] at he
        subst he
        rw [beq_toListBytes]
        exact run_equalIn_string w (d + m) t a c hu
      · cases h
    · rename_i fs i hu hi
      split at h
      · cases h
      · rename_i hst
        split at h
        · rename_i ks' hks
          split at h
          · obtain rfl := Option.some.inj h
            unfold formed at fx fy
            rw [hu] at fx fy
            obtain ⟨xs, rfl⟩ := fx
            obtain ⟨ys, rfl⟩ := fy
            have hfo : P.fieldsOf t = fs := by simp [Program.fieldsOf, hu]
            rw [show d + (m + 1) = (d + m) + 1 from rfl, run_equalIn_struct w (d + m) t xs ys (by rw [hfo]; exact hu) (by simpa using hst), hfo]
            exact eqFields_ks (eq_ks m) d xs ys fs.toList 0 _ b w hks (by simpa [Value.cells] using hx) (by simpa [Value.cells] using hy) (by simpa [Value.cells] using he)
          · cases h
        · cases h
    · rename_i n e i hu hi
      split at h
      · rename_i ks' hks
        split at h
        · obtain rfl := Option.some.inj h
          unfold formed at fx fy
          rw [hu] at fx fy
          obtain ⟨xs, rfl⟩ := fx
          obtain ⟨ys, rfl⟩ := fy
          obtain ⟨hc, ie, hie⟩ := cellsOf_ks hks
          rw [show d + (m + 1) = (d + m) + 1 from rfl, run_equalIn_array w (d + m) xs ys hu hie, hc, List.range_eq_range']
          exact eqItems_ks (eq_ks m) d hks xs ys n 0 b w (by simpa [Value.cells] using hx) (by simpa [Value.cells] using hy) (by simpa [Value.cells] using he)
        · cases h
      · cases h
    · cases h

theorem keyFields_ks {m : Nat} (IH : ∀ t ks, ksAt P m t = some ks → KeyS P m t ks) (d : Nat) (xs : Array Value) (e : Bool) : ∀ (fs : List Field) (off : Nat) (ks : List CK) (w : World), ksFields (ksAt P m) fs off = some ks →
    fitsK ks (xs.toList.drop off) = true → (forIn fs PUnit.unit (fun f (_ : PUnit) => (do
      if f.name ≠ "_" then Instr.checkKey e (d + m) f.type (← part f.type xs f.offset)
      pure (ForInStep.yield PUnit.unit) : Sem (ForInStep PUnit)))).run P w = .ok PUnit.unit w
  | [], off, ks, w, h, hx => rfl
  | f :: fs, off, ks, w, h, hx => by
    unfold ksFields at h
    split at h
    · rename_i hf
      split at h
      · rename_i k1 hk1
        rw [Option.map_eq_some_iff] at h
        obtain ⟨k2, hk2, rfl⟩ := h
        obtain ⟨hx1, hx2⟩ := fitsK_append hx
        obtain ⟨v, p1, p2, p3⟩ := run_part_ks hk1 xs off w hx1
        have r := IH _ _ hk1 d v e w p2 (by rw [p3]; exact hx1)
        rw [List.drop_drop] at hx2
        have next := keyFields_ks IH d xs e fs (off + k1.length) k2 w hk2 hx2
        simp only [List.forIn_cons]
        rw [if_pos hf.1, hf.2]
        simp only [Sem.run_bind, p1, r, Result.andThen_ok, Sem.run_pure]
        exact next
      · cases h
    · cases h

theorem keyItems_ks {m : Nat} (IH : ∀ t ks, ksAt P m t = some ks → KeyS P m t ks) (d : Nat) {te : TypeId} {k1 : List CK} (hk1 : ksAt P m te = some k1) (xs : Array Value) (e : Bool) : ∀ (len j : Nat) (w : World),
    fitsK (ksRep len k1) (xs.toList.drop (j * k1.length)) = true → (forIn (List.range' j len) PUnit.unit (fun i (_ : PUnit) => (do
      Instr.checkKey e (d + m) te (← part te xs (i * (← sizeOf te)))
      pure (ForInStep.yield PUnit.unit) : Sem (ForInStep PUnit)))).run P w = .ok PUnit.unit w
  | 0, j, w, hx => rfl
  | len + 1, j, w, hx => by
    unfold ksRep at hx
    obtain ⟨hx1, hx2⟩ := fitsK_append hx
    obtain ⟨v, p1, p2, p3⟩ := run_part_ks hk1 xs (j * k1.length) w hx1
    have r := IH _ _ hk1 d v e w p2 (by rw [p3]; exact hx1)
    rw [List.drop_drop, show j * k1.length + k1.length = (j + 1) * k1.length from by rw [Nat.succ_mul]] at hx2
    have next := keyItems_ks IH d hk1 xs e len (j + 1) w hx2
    obtain ⟨i, _, hi, _, hs, _⟩ := ks_info hk1
    have hsz : (sizeOf te).run P w = .ok k1.length w := by simp [sizeOf, typeInfo, hi, hs]
    rw [List.range'_succ]
    simp only [List.forIn_cons, Sem.run_bind, hsz, p1, r, Result.andThen_ok, Sem.run_pure]
    exact next

theorem key_ks : ∀ (m : Nat) (t : TypeId) (ks : List CK), ksAt P m t = some ks → KeyS P m t ks
  | 0, _, _, h => by cases h
  | m + 1, t, ks, h => by
    intro d x e w fx hx
    unfold ksAt at h
    rw [show d + (m + 1) = (d + m) + 1 from rfl]
    split at h
    · rename_i i hu hi
      split at h
      · obtain rfl := Option.some.inj h
        unfold formed at fx
        rw [hu] at fx
        obtain ⟨ex, hx1⟩ := plain_of fx hx
        obtain ⟨a, rfl⟩ := fits_bool hx1
        simp [Instr.checkKey, underlying, hu]
      · cases h
    · rename_i k i hu hi
      split at h
      · obtain rfl := Option.some.inj h
        unfold formed at fx
        rw [hu] at fx
        obtain ⟨ex, hx1⟩ := plain_of fx hx
        obtain ⟨a, rfl⟩ := fits_int hx1
        simp [Instr.checkKey, underlying, hu]
      · cases h
    · rename_i i hu hi
      split at h
      · obtain rfl := Option.some.inj h
        unfold formed at fx
        rw [hu] at fx
        obtain ⟨ex, hx1⟩ := plain_of fx hx
        obtain ⟨a, rfl⟩ := fits_string hx1
        simp [Instr.checkKey, underlying, hu]
      · cases h
    · rename_i fs i hu hi
      split at h
      · cases h
      · split at h
        · rename_i ks' hks
          split at h
          · obtain rfl := Option.some.inj h
            unfold formed at fx
            rw [hu] at fx
            obtain ⟨xs, rfl⟩ := fx
            have hun : (underlying t).run P w = .ok (.struct fs) w := by simp [underlying, hu]
            simp only [Instr.checkKey, Sem.run_bind, hun, Result.andThen_ok]
            rw [← Array.forIn_toList]
            have hk := keyFields_ks (key_ks m) d xs e fs.toList 0 _ w hks (by simpa [Value.cells] using hx)
            exact (congrArg (fun r => Result.andThen r fun (_ : PUnit) w' => Sem.run P (pure ()) w') hk).trans rfl
          · cases h
        · cases h
    · rename_i n te i hu hi
      split at h
      · rename_i ks' hks
        split at h
        · obtain rfl := Option.some.inj h
          unfold formed at fx
          rw [hu] at fx
          obtain ⟨xs, rfl⟩ := fx
          have hun : (underlying t).run P w = .ok (.array n te) w := by simp [underlying, hu]
          simp only [Instr.checkKey, Sem.run_bind, hun, Result.andThen_ok]
          simp only [Std.Legacy.Range.forIn_eq_forIn_range', Std.Legacy.Range.size, Nat.sub_zero, Nat.add_one_sub_one, Nat.div_one]
          have hk := keyItems_ks (key_ks m) d hks xs e n 0 w (by simpa [Value.cells] using hx)
          exact (congrArg (fun r => Result.andThen r fun (_ : PUnit) w' => Sem.run P (pure ()) w') hk).trans rfl
        · cases h
      · cases h
    · cases h

/-- what may be compared, and be a key -/
def peqOf (P : Program) (n : Nat) (t : TypeId) : Option (List CK) :=
  match P.underlying t with
  | some (.struct _) | some (.array _ _) => if P.eqGuardType P.depth t = false then ksAt P n t else none
  | _ => none

theorem peq_ok {n : Nat} (hn : n ≤ 10000) {t : TypeId} {ks : List CK} (h : peqOf P n t = some ks) : EqAgree P t ks := by
  unfold peqOf at h
  split at h
  · rename_i fs hu
    split at h
    · rename_i hg
      have hform : ∀ xs, formed P t (.agg xs) := fun xs => by unfold formed; rw [hu]; exact ⟨_, rfl⟩
      refine ⟨fun xs ys b w hx hy he => ?_, hg, fun xs e w hx => ?_, ⟨_, hu, rfl⟩⟩
      · have := eq_ks n t ks h (10000 - n) (.agg xs) (.agg ys) b w (hform xs) (hform ys) hx hy he
        rw [show 10000 - n + n = 10000 from by omega] at this
        exact this
      · have := key_ks n t ks h (10000 - n) (.agg xs) e w (hform xs) hx
        rw [show 10000 - n + n = 10000 from by omega] at this
        exact this
    · cases h
  · rename_i len el hu
    split at h
    · rename_i hg
      have hform : ∀ xs, formed P t (.agg xs) := fun xs => by unfold formed; rw [hu]; exact ⟨_, rfl⟩
      refine ⟨fun xs ys b w hx hy he => ?_, hg, fun xs e w hx => ?_, ⟨_, hu, rfl⟩⟩
      · have := eq_ks n t ks h (10000 - n) (.agg xs) (.agg ys) b w (hform xs) (hform ys) hx hy he
        rw [show 10000 - n + n = 10000 from by omega] at this
        exact this
      · have := key_ks n t ks h (10000 - n) (.agg xs) e w (hform xs) hx
        rw [show 10000 - n + n = 10000 from by omega] at this
        exact this
    · cases h
  · cases h

/-- the tables of a program -/
def cfgP (_P : Program) (G : Nat) (ft : T Func) (tt : T (Option Ty)) (pt : T (Option (List CK))) : Cfg := cfgOf G ft tt fun t => match pt.get t with
  | some (some ks) => some ks
  | _ => none

theorem cfgP_ok (G n : Nat) (hm : P.follows .mixedOrders = true) : CfgOk P (cfgP P G (T.ofList P.funcs.toList) (T.ofList ((List.range n).map (tyRow P))) (T.ofList ((List.range n).map (peqOf P 20)))) (okK G) := by
  refine cfg_ok n hm fun t ks h => ?_
  simp only [T.get_ofList] at h
  split at h
  · rename_i ks' hg
    cases h
    rw [List.getElem?_map, Option.map_eq_some_iff] at hg
    obtain ⟨x, hx, e⟩ := hg
    have hxt : x = t := by
      by_cases hl : t < n
      · rw [List.getElem?_range hl] at hx; exact (Option.some.inj hx).symm
      · rw [List.getElem?_eq_none (by simpa using hl)] at hx; cases hx
    rw [← hxt]
    exact peq_ok (by omega) e
  · cases h

end
end Go.Ai
