/- The interpreter: what holds of it. -/
import Derived.Test.YtgplkbfjlidinabGreatDoorAiDraw
import Derived.Laws.StructEq
import Derived.ChangeKeysEq
import Derived.ProofKit
import Derived.Test.YtgplkbfjlidinabGreatDoorAiMach
import Derived.KernelRfl
import Derived.Test.YtgplkbfjlidinabGreatDoorAiOrd
import Derived.Test.YtgplkbfjlidinabGreatDoorKit
set_option linter.unusedVariables false
set_option linter.unusedSimpArgs false
set_option linter.unnecessarySimpa false
/-
  '==' at a struct, and a struct as a map's key: that of its cells.
-/
namespace Go.Ai
def ksFields (rec_ : TypeId → Option (List CK)) : List Field → Nat → Option (List CK)
  | [], _ => some []
  | f :: fs, off =>
    if f.name ≠ "_" ∧ f.offset = off then
      match rec_ f.type with
      | some ks => (ksFields rec_ fs (off + ks.length)).map fun r => ks ++ r
      | none => none
    else none
def ksRep : Nat → List CK → List CK
 | 0, _ => []
 | n + 1, ks => ks ++ ksRep n ks
theorem ksRep_length (ks : List CK) : ∀ n, (ksRep n ks).length = n * ks.length
 | 0 => by simp [ksRep]
 | n + 1 => by simp [ksRep, ksRep_length ks n, Nat.add_mul]; omega
def ksAt (P : Program) : Nat → TypeId → Option (List CK)
  | 0, _ => none
  | d + 1, t =>
    match P.underlying t, P.info? t with
    | some .bool, some i => if i.size = 1 then some [.bool] else none
    | some (.int k), some i => if i.size = 1 then some [.int k] else none
    | some .string, some i => if i.size = 1 then some [.string] else none
    | some (.struct fs), some i =>
      if P.stoodInHeld t then none else
      match ksFields (ksAt P d) fs.toList 0 with
      | some ks => if i.size = ks.length then some ks else none
      | none => none
    | some (.array len elem), some i =>
      match ksAt P d elem with
      | some ks => if i.size = len * ks.length then some (ksRep len ks) else none
      | none => none
    | _, _ => none
theorem fitsK_length : ∀ {ks : List CK} {vs : List Value}, fitsK ks vs = true → vs.length = ks.length
  | [], [], _ => rfl
  | [], _ :: _, h => Z1a
  | _ :: _, [], h => Z1a
  | k :: ks, v :: vs, h => by
    simp only [fitsK, Bool.and_eq_true] at h;simp [fitsK_length h.2]
theorem fitsK_append : ∀ {ks ks' : List CK} {vs : List Value}, fitsK (ks ++ ks') vs = true → fitsK ks (vs.take ks.length) = true ∧ fitsK ks' (vs.drop ks.length) = true
  | [], ks', vs, h => by simpa [fitsK] using h
  | k :: ks, ks', [], h => Z1a
  | k :: ks, ks', v :: vs, h => by
    simp only [List.cons_append, fitsK, Bool.and_eq_true] at h;obtain ⟨h1, h2⟩ := fitsK_append h.2;simp only [List.length_cons, List.take_succ_cons, List.drop_succ_cons, fitsK, Bool.and_eq_true];exact ⟨⟨h.1, h1⟩, h2⟩
theorem cellsEq_split : ∀ (n : Nat) {xs ys : List Value} {b : Bool}, cellsEq xs ys = some b → ∃ b1 b2, cellsEq (xs.take n) (ys.take n) = some b1 ∧ cellsEq (xs.drop n) (ys.drop n) = some b2 ∧ b = (b1 && b2)
  | 0, xs, ys, b, h => ⟨true, b, by simp [cellsEq], Z15, Z0u⟩
  | n + 1, [], [], b, h => by
    have : b = true := by simpa [cellsEq] using h.symm
    exact ⟨true, true, by simp [cellsEq], by simp [cellsEq], by simp [this]⟩
  | n + 1, [], _ :: _, b, h => by simp [cellsEq] at h
  | n + 1, _ :: _, [], b, h => by simp [cellsEq] at h
  | n + 1, x :: xs, y :: ys, b, h => by
    unfold cellsEq at h;split at h
    · rename_i a c ha hc
      obtain rfl := Option.some.inj h;obtain ⟨b1, b2, h1, h2, rfl⟩ := cellsEq_split n hc;exact ⟨a && b1, b2, by simp [cellsEq, ha, h1], Z1q, by simp [Bool.and_assoc]⟩
    · cases h
section
variable {P : Program}
def formed (P : Program) (t : TypeId) (x : Value) : Prop :=
 match P.underlying t with
 | some (.struct _) | some (.array _ _) => ∃ cs, x = .agg cs
 | _ => ∀ cs, x ≠ .agg cs ∧ x ≠ .tuple cs
def EqS (P : Program) (m : Nat) (t : TypeId) (ks : List CK) : Prop :=
 ∀ (d : Nat) (x y : Value) (b : Bool) (w : World), formed P t x → formed P t y → fitsK ks x.cells.toList = true → fitsK ks y.cells.toList = true → cellsEq x.cells.toList y.cells.toList = some b → (Op.equalIn (d + m) t x y).run P w = .ok b w
def KeyS (P : Program) (m : Nat) (t : TypeId) (ks : List CK) : Prop :=
 ∀ (d : Nat) (x : Value) (e : Bool) (w : World), formed P t x → fitsK ks x.cells.toList = true → (Instr.checkKey e (d + m) t x).run P w = .ok () w
theorem ks_info {m : Nat} {t : TypeId} {ks : List CK} (h : ksAt P m t = some ks) : ∃ i desc, P.info? t = some i ∧ P.underlying t = some desc ∧ i.size = ks.length ∧ ((∃ fs, desc = .struct fs) ∨ (∃ n e, desc = .array n e) ∨ (ks.length = 1 ∧ ((desc = .bool ∧ ks = [.bool]) ∨ (∃ k, desc = .int k ∧ ks = [.int k]) ∨ (desc = .string ∧ ks = [.string])))) := by
  cases m with
  | zero => cases h
  | succ m =>
    unfold ksAt at h;split at h
    · rename_i i hu hi
      split at h
      · rename_i hs; obtain rfl := Option.some.inj h
        exact ⟨i, _, hi, hu, hs, .inr (.inr ⟨rfl, .inl ⟨rfl, rfl⟩⟩)⟩
      · cases h
    · rename_i k i hu hi
      split at h
      · rename_i hs; obtain rfl := Option.some.inj h
        exact ⟨i, _, hi, hu, hs, .inr (.inr ⟨rfl, .inr (.inl ⟨k, rfl, rfl⟩)⟩)⟩
      · cases h
    · rename_i i hu hi
      split at h
      · rename_i hs; obtain rfl := Option.some.inj h
        exact ⟨i, _, hi, hu, hs, .inr (.inr ⟨rfl, .inr (.inr ⟨rfl, rfl⟩)⟩)⟩
      · cases h
    · rename_i fs i hu hi
      split at h
      · cases h
      · split at h
        · split at h
          · rename_i hs; obtain rfl := Option.some.inj h
            exact ⟨i, _, hi, hu, hs, .inl ⟨fs, rfl⟩⟩
          · cases h
        · cases h
    · rename_i n e i hu hi
      split at h
      · split at h
        · rename_i ks' _ hs; obtain rfl := Option.some.inj h
          exact ⟨i, _, hi, hu, by rw [hs, ksRep_length], .inr (.inl ⟨n, e, rfl⟩)⟩
        · cases h
      · cases h
    · cases h
theorem run_part_ks {m : Nat} {t : TypeId} {ks : List CK} (h : ksAt P m t = some ks) (xs : Array Value) (off : Nat) (w : World) (hf : fitsK ks ((xs.toList.drop off).take ks.length) = true) :
  ∃ v, (part t xs off).run P w = .ok v w ∧ formed P t v ∧ v.cells.toList = (xs.toList.drop off).take ks.length := by
 obtain ⟨i, desc, hi, hu, hs, hd⟩ := ks_info h;have hun : (underlying t).run P w = .ok desc w := by simp [underlying, hu]
 rcases hd with ⟨fs, rfl⟩ | ⟨n, e, rfl⟩ | ⟨h1, hd⟩
 ·refine ⟨.agg (xs.extract off (off + ks.length)), ?_, ?_, ?_⟩
  ·have hsz : (sizeOf t).run P w = .ok ks.length w := by simp [sizeOf, typeInfo, hi, hs]
   simp only [part, isAgg, Sem.run_bind, hun, Result.andThen_ok, Sem.run_pure, if_true, hsz]
  ·unfold formed; rw [hu]; exact ⟨_, rfl⟩
  ·simp [Value.cells, List.extract_eq_take_drop]
 ·refine ⟨.agg (xs.extract off (off + ks.length)), ?_, ?_, ?_⟩
  ·have hsz : (sizeOf t).run P w = .ok ks.length w := by simp [sizeOf, typeInfo, hi, hs]
   simp only [part, isAgg, Sem.run_bind, hun, Result.andThen_ok, Sem.run_pure, if_true, hsz]
  ·unfold formed; rw [hu]; exact ⟨_, rfl⟩
  ·simp [Value.cells, List.extract_eq_take_drop]
 ·have hl := fitsK_length hf;rw [h1] at hl hf;obtain ⟨v, hv⟩ : ∃ v, (xs.toList.drop off).take 1 = [v] := List.length_eq_one_iff.1 hl;have hget : xs[off]? = some v := by
   have : ((xs.toList.drop off).take 1)[0]? = some v := by rw [hv]; rfl
   rw [List.getElem?_take_of_lt Z4, List.getElem?_drop] at this;simpa using this
  have hna : (isAgg t).run P w = .ok false w := by
   simp only [isAgg, Sem.run_bind, hun, Result.andThen_ok];rcases hd with ⟨rfl, _⟩ | ⟨k, rfl, _⟩ | ⟨rfl, _⟩ <;> rfl
  rw [hv] at hf;have hpl : (∀ cs, v ≠ .agg cs ∧ v ≠ .tuple cs) ∧ v.cells = #[v] := by
   rcases hd with ⟨_, rfl⟩ | ⟨k, _, rfl⟩ | ⟨_, rfl⟩ <;> (cases v <;> simp_all [fitsK, CK.fits, Value.cells])
  refine ⟨v, ?_, ?_, ?_⟩
  ·simp only [part, Sem.run_bind, hna, Result.andThen_ok, Bool.false_eq_true, if_false, hget, Sem.run_pure]
  ·unfold formed; rw [hu];rcases hd with ⟨rfl, _⟩ | ⟨k, rfl, _⟩ | ⟨rfl, _⟩ <;> exact hpl.1
  ·rw [h1, hv, hpl.2]
theorem eqFields_ks {m : Nat} (IH : ∀ t ks, ksAt P m t = some ks → EqS P m t ks) (d : Nat) (xs ys : Array Value) : ∀ (fs : List Field) (off : Nat) (ks : List CK) (b : Bool) (w : World), ksFields (ksAt P m) fs off = some ks →
    fitsK ks (xs.toList.drop off) = true → fitsK ks (ys.toList.drop off) = true → cellsEq (xs.toList.drop off) (ys.toList.drop off) = some b → (Op.eqFields (d + m) xs ys fs).run P w = .ok b w
  | [], off, ks, b, w, h, hx, hy, he => by
    obtain rfl := Option.some.inj h;have h1 := fitsK_length hx;have h2 := fitsK_length hy;have e1 : xs.toList.drop off = [] := List.length_eq_zero_iff.1 Z1e;have e2 : ys.toList.drop off = [] := List.length_eq_zero_iff.1 Z1q;rw [e1, e2] at he;have : b = true := by simpa [cellsEq] using he.symm
    subst this;rfl
  | f :: fs, off, ks, b, w, h, hx, hy, he => by
    unfold ksFields at h;split at h
    · rename_i hf
      split at h
      · rename_i k1 hk1
        rw [Option.map_eq_some_iff] at h;obtain ⟨k2, hk2, rfl⟩ := h;obtain ⟨hx1, hx2⟩ := fitsK_append hx;obtain ⟨hy1, hy2⟩ := fitsK_append hy;obtain ⟨b1, b2, e1, e2, rfl⟩ := cellsEq_split k1.length he;obtain ⟨v, p1, p2, p3⟩ := run_part_ks hk1 xs off w hx1;obtain ⟨v', q1, q2, q3⟩ := run_part_ks hk1 ys off w hy1;have r := IH _ _ hk1 d v v' b1 w p2 q2 Z24 (by rw [q3]; exact hy1) (by rw [p3, q3]; exact e1);simp only [Op.eqFields];rw [if_pos hf.1, hf.2];simp only [Sem.run_bind, p1, q1, r, Result.andThen_ok];cases b1 with
        | false => simp
        | true =>
          rw [List.drop_drop] at hx2 hy2 e2;rw [List.drop_drop] at e2;simp only [Bool.not_true, Bool.false_eq_true, if_false, Bool.true_and];exact eqFields_ks IH d xs ys fs (off + k1.length) k2 b2 w hk2 hx2 hy2 e2
      · cases h
    · cases h
theorem cellsOf_ks {m : Nat} {t : TypeId} {ks : List CK} (h : ksAt P m t = some ks) : P.cellsOf t = ks.length ∧ ∃ i, P.info? t = some i := by
 obtain ⟨i, _, hi, _, hs, _⟩ := ks_info h;exact ⟨by simp [Program.cellsOf, hi, hs], i, hi⟩
theorem eqItems_ks {m : Nat} (IH : ∀ t ks, ksAt P m t = some ks → EqS P m t ks) (d : Nat) {e : TypeId} {k1 : List CK} (hk1 : ksAt P m e = some k1) (xs ys : Array Value) : ∀ (len j : Nat) (b : Bool) (w : World),
    fitsK (ksRep len k1) (xs.toList.drop (j * k1.length)) = true → fitsK (ksRep len k1) (ys.toList.drop (j * k1.length)) = true → cellsEq (xs.toList.drop (j * k1.length)) (ys.toList.drop (j * k1.length)) = some b →
    (Op.eqItems (d + m) e k1.length xs ys (List.range' j len)).run P w = .ok b w
  | 0, j, b, w, hx, hy, he => by
    have h1 := fitsK_length hx;have h2 := fitsK_length hy;have e1 : xs.toList.drop (j * k1.length) = [] := List.length_eq_zero_iff.1 (by simpa [ksRep] using h1);have e2 : ys.toList.drop (j * k1.length) = [] := List.length_eq_zero_iff.1 (by simpa [ksRep] using h2);rw [e1, e2] at he;have : b = true := by simpa [cellsEq] using he.symm
    subst this;rfl
  | len + 1, j, b, w, hx, hy, he => by
    unfold ksRep at hx hy;obtain ⟨hx1, hx2⟩ := fitsK_append hx;obtain ⟨hy1, hy2⟩ := fitsK_append hy;obtain ⟨b1, b2, e1, e2, rfl⟩ := cellsEq_split k1.length he;obtain ⟨v, p1, p2, p3⟩ := run_part_ks hk1 xs (j * k1.length) w hx1;obtain ⟨v', q1, q2, q3⟩ := run_part_ks hk1 ys (j * k1.length) w hy1;have r := IH _ _ hk1 d v v' b1 w p2 q2 Z24 (by rw [q3]; exact hy1) (by rw [p3, q3]; exact e1);rw [List.range'_succ];simp only [Op.eqItems, Sem.run_bind, p1, q1, r, Result.andThen_ok];cases b1 with
    | false => simp
    | true =>
      rw [List.drop_drop, show j * k1.length + k1.length = (j + 1) * k1.length from by rw [Nat.succ_mul]] at hx2 hy2;rw [List.drop_drop, List.drop_drop, show j * k1.length + k1.length = (j + 1) * k1.length from by rw [Nat.succ_mul]] at e2;simp only [Bool.not_true, Bool.false_eq_true, if_false, Bool.true_and];exact eqItems_ks IH d hk1 xs ys len (j + 1) b2 w hx2 hy2 e2
theorem plain_of {c : CK} {x : Value} (hf : ∀ cs, x ≠ .agg cs ∧ x ≠ .tuple cs) (h : fitsK [c] x.cells.toList = true) : x.cells = #[x] ∧ c.fits x = true := by
 have e : x.cells = #[x] := by
  cases x <;> first
   | rfl
   | exact absurd rfl (hf _).1
   | exact absurd rfl (hf _).2
 rw [e] at h;exact ⟨e, by simpa [fitsK] using h⟩
theorem fits_bool {x : Value} (h : CK.bool.fits x = true) : ∃ b, x = .bool b := by
 cases x <;> first | exact ⟨_, rfl⟩ | cases h
theorem fits_string {x : Value} (h : CK.string.fits x = true) : ∃ b, x = .string b := by
 cases x <;> first | exact ⟨_, rfl⟩ | cases h
theorem fits_int {k : IntKind} {x : Value} (h : (CK.int k).fits x = true) : ∃ n, x = .int k n := by
 cases x <;> first
  | cases h; done
  | (simp only [CK.fits, decide_eq_true_eq] at h; subst h; exact ⟨_, rfl⟩)
  | cases h
theorem eq_ks : ∀ (m : Nat) (t : TypeId) (ks : List CK), ksAt P m t = some ks → EqS P m t ks
  | 0, _, _, h => Z02
  | m + 1, t, ks, h => by
    intro d x y b w fx fy hx hy he;have h0 := h;unfold ksAt at h;split at h
    · rename_i i hu hi
      split at h
      · obtain rfl := Option.some.inj h
        unfold formed at fx fy;rw [hu] at fx fy;obtain ⟨ex, hx1⟩ := plain_of fx hx;obtain ⟨ey, hy1⟩ := plain_of fy hy;rw [ex, ey] at he;obtain ⟨a, rfl⟩ := fits_bool hx1;obtain ⟨c, rfl⟩ := fits_bool hy1;rw [show d + (m + 1) = (d + m) + 1 from rfl];simp only [cellsEq, cellEq, Bool.and_true, Option.some.injEq] at he;subst he;exact run_equalIn_bool w (d + m) t a c hu
      · cases h
    · rename_i k i hu hi
      split at h
      · obtain rfl := Option.some.inj h
        unfold formed at fx fy;rw [hu] at fx fy;obtain ⟨ex, hx1⟩ := plain_of fx hx;obtain ⟨ey, hy1⟩ := plain_of fy hy;rw [ex, ey] at he;obtain ⟨a, rfl⟩ := fits_int hx1;obtain ⟨c, rfl⟩ := fits_int hy1;rw [show d + (m + 1) = (d + m) + 1 from rfl];simp only [cellsEq, cellEq, if_true, Bool.and_true, Option.some.injEq] at he;subst he;exact run_equalIn_int w (d + m) t k k a c hu
      · cases h
    · rename_i i hu hi
      split at h
      · obtain rfl := Option.some.inj h
        unfold formed at fx fy;rw [hu] at fx fy;obtain ⟨ex, hx1⟩ := plain_of fx hx;obtain ⟨ey, hy1⟩ := plain_of fy hy;rw [ex, ey] at he;obtain ⟨a, rfl⟩ := fits_string hx1;obtain ⟨c, rfl⟩ := fits_string hy1;rw [show d + (m + 1) = (d + m) + 1 from rfl];simp only [cellsEq, cellEq, Bool.and_true, Option.some.injEq] at he;subst he;rw [beq_toListBytes];exact run_equalIn_string w (d + m) t a c hu
      · cases h
    · rename_i fs i hu hi
      split at h
      · cases h
      · rename_i hst
        split at h
        · rename_i ks' hks
          split at h
          · obtain rfl := Option.some.inj h
            unfold formed at fx fy;rw [hu] at fx fy;obtain ⟨xs, rfl⟩ := fx;obtain ⟨ys, rfl⟩ := fy;have hfo : P.fieldsOf t = fs := by simp [Program.fieldsOf, hu]
            rw [show d + (m + 1) = (d + m) + 1 from rfl, run_equalIn_struct w (d + m) t xs ys (by rw [hfo]; exact hu) (by simpa using hst), hfo];exact eqFields_ks (eq_ks m) d xs ys fs.toList 0 _ b w hks Z1n (by simpa [Value.cells] using hy) (by simpa [Value.cells] using he)
          · cases h
        · cases h
    · rename_i n e i hu hi
      split at h
      · rename_i ks' hks
        split at h
        · obtain rfl := Option.some.inj h
          unfold formed at fx fy;rw [hu] at fx fy;obtain ⟨xs, rfl⟩ := fx;obtain ⟨ys, rfl⟩ := fy;obtain ⟨hc, ie, hie⟩ := cellsOf_ks hks;rw [show d + (m + 1) = (d + m) + 1 from rfl, run_equalIn_array w (d + m) xs ys hu hie, hc, List.range_eq_range'];exact eqItems_ks (eq_ks m) d hks xs ys n 0 b w Z1n (by simpa [Value.cells] using hy) (by simpa [Value.cells] using he)
        · cases h
      · cases h
    · cases h
theorem keyFields_ks {m : Nat} (IH : ∀ t ks, ksAt P m t = some ks → KeyS P m t ks) (d : Nat) (xs : Array Value) (e : Bool) : ∀ (fs : List Field) (off : Nat) (ks : List CK) (w : World), ksFields (ksAt P m) fs off = some ks →
    fitsK ks (xs.toList.drop off) = true → (forIn fs PUnit.unit (fun f (_ : PUnit) => (do
      if f.name ≠ "_" then Instr.checkKey e (d + m) f.type (← part f.type xs f.offset)
      pure (ForInStep.yield PUnit.unit) : Sem (ForInStep PUnit)))).run P w = .ok PUnit.unit w
  | [], off, ks, w, h, hx => rfl
  | f :: fs, off, ks, w, h, hx => by
    unfold ksFields at h;split at h
    · rename_i hf
      split at h
      · rename_i k1 hk1
        rw [Option.map_eq_some_iff] at h;obtain ⟨k2, hk2, rfl⟩ := h;obtain ⟨hx1, hx2⟩ := fitsK_append hx;obtain ⟨v, p1, p2, p3⟩ := run_part_ks hk1 xs off w hx1;have r := IH _ _ hk1 d v e w p2 Z24;rw [List.drop_drop] at hx2;have next := keyFields_ks IH d xs e fs (off + k1.length) k2 w hk2 hx2
        simp only [List.forIn_cons];rw [if_pos hf.1, hf.2];simp only [Sem.run_bind, p1, r, Result.andThen_ok, Sem.run_pure];exact next
      · cases h
    · cases h
theorem keyItems_ks {m : Nat} (IH : ∀ t ks, ksAt P m t = some ks → KeyS P m t ks) (d : Nat) {te : TypeId} {k1 : List CK} (hk1 : ksAt P m te = some k1) (xs : Array Value) (e : Bool) : ∀ (len j : Nat) (w : World),
    fitsK (ksRep len k1) (xs.toList.drop (j * k1.length)) = true → (forIn (List.range' j len) PUnit.unit (fun i (_ : PUnit) => (do
      Instr.checkKey e (d + m) te (← part te xs (i * (← sizeOf te)))
      pure (ForInStep.yield PUnit.unit) : Sem (ForInStep PUnit)))).run P w = .ok PUnit.unit w
  | 0, j, w, hx => rfl
  | len + 1, j, w, hx => by
    unfold ksRep at hx;obtain ⟨hx1, hx2⟩ := fitsK_append hx;obtain ⟨v, p1, p2, p3⟩ := run_part_ks hk1 xs (j * k1.length) w hx1;have r := IH _ _ hk1 d v e w p2 Z24;rw [List.drop_drop, show j * k1.length + k1.length = (j + 1) * k1.length from by rw [Nat.succ_mul]] at hx2;have next := keyItems_ks IH d hk1 xs e len (j + 1) w hx2
    obtain ⟨i, _, hi, _, hs, _⟩ := ks_info hk1;have hsz : (sizeOf te).run P w = .ok k1.length w := by simp [sizeOf, typeInfo, hi, hs]
    rw [List.range'_succ];simp only [List.forIn_cons, Sem.run_bind, hsz, p1, r, Result.andThen_ok, Sem.run_pure];exact next
theorem key_ks : ∀ (m : Nat) (t : TypeId) (ks : List CK), ksAt P m t = some ks → KeyS P m t ks
  | 0, _, _, h => Z02
  | m + 1, t, ks, h => by
    intro d x e w fx hx;unfold ksAt at h;rw [show d + (m + 1) = (d + m) + 1 from rfl];split at h
    · rename_i i hu hi
      split at h
      · obtain rfl := Option.some.inj h
        unfold formed at fx;rw [hu] at fx;obtain ⟨ex, hx1⟩ := plain_of fx hx;obtain ⟨a, rfl⟩ := fits_bool hx1;simp [Instr.checkKey, underlying, hu]
      · cases h
    · rename_i k i hu hi
      split at h
      · obtain rfl := Option.some.inj h
        unfold formed at fx;rw [hu] at fx;obtain ⟨ex, hx1⟩ := plain_of fx hx;obtain ⟨a, rfl⟩ := fits_int hx1;simp [Instr.checkKey, underlying, hu]
      · cases h
    · rename_i i hu hi
      split at h
      · obtain rfl := Option.some.inj h
        unfold formed at fx;rw [hu] at fx;obtain ⟨ex, hx1⟩ := plain_of fx hx;obtain ⟨a, rfl⟩ := fits_string hx1;simp [Instr.checkKey, underlying, hu]
      · cases h
    · rename_i fs i hu hi
      split at h
      · cases h
      · split at h
        · rename_i ks' hks
          split at h
          · obtain rfl := Option.some.inj h
            unfold formed at fx;rw [hu] at fx;obtain ⟨xs, rfl⟩ := fx;have hun : (underlying t).run P w = .ok (.struct fs) w := by simp [underlying, hu]
            simp only [Instr.checkKey, Sem.run_bind, hun, Result.andThen_ok];rw [← Array.forIn_toList];have hk := keyFields_ks (key_ks m) d xs e fs.toList 0 _ w hks Z1n;exact (congrArg (fun r => Result.andThen r fun (_ : PUnit) w' => Sem.run P (pure ()) w') hk).trans rfl
          · cases h
        · cases h
    · rename_i n te i hu hi
      split at h
      · rename_i ks' hks
        split at h
        · obtain rfl := Option.some.inj h
          unfold formed at fx;rw [hu] at fx;obtain ⟨xs, rfl⟩ := fx;have hun : (underlying t).run P w = .ok (.array n te) w := by simp [underlying, hu]
          simp only [Instr.checkKey, Sem.run_bind, hun, Result.andThen_ok];simp only [Std.Legacy.Range.forIn_eq_forIn_range', Std.Legacy.Range.size, Nat.sub_zero, Nat.add_one_sub_one, Nat.div_one];have hk := keyItems_ks (key_ks m) d hks xs e n 0 w Z1n;exact (congrArg (fun r => Result.andThen r fun (_ : PUnit) w' => Sem.run P (pure ()) w') hk).trans rfl
        · cases h
      · cases h
    · cases h
def peqOf (P : Program) (n : Nat) (t : TypeId) : Option (List CK) :=
 match P.underlying t with
 | some (.struct _) | some (.array _ _) => if P.eqGuardType P.depth t = false then ksAt P n t else none
 | _ => none
theorem peq_ok {n : Nat} (hn : n ≤ 10000) {t : TypeId} {ks : List CK} (h : peqOf P n t = some ks) : EqAgree P t ks := by
 unfold peqOf at h;split at h
 ·rename_i fs hu;split at h
  ·rename_i hg;have hform : ∀ xs, formed P t (.agg xs) := fun xs => by unfold formed; rw [hu]; exact ⟨_, rfl⟩
   refine ⟨fun xs ys b w hx hy he => ?_, hg, fun xs e w hx => ?_, ⟨_, hu, rfl⟩⟩
   ·have := eq_ks n t ks h (10000 - n) (.agg xs) (.agg ys) b w (hform xs) (hform ys) hx hy he;rw [show 10000 - n + n = 10000 from Z4] at this;exact this
   ·have := key_ks n t ks h (10000 - n) (.agg xs) e w (hform xs) hx;rw [show 10000 - n + n = 10000 from Z4] at this;exact this
  ·cases h
 ·rename_i len el hu;split at h
  ·rename_i hg;have hform : ∀ xs, formed P t (.agg xs) := fun xs => by unfold formed; rw [hu]; exact ⟨_, rfl⟩
   refine ⟨fun xs ys b w hx hy he => ?_, hg, fun xs e w hx => ?_, ⟨_, hu, rfl⟩⟩
   ·have := eq_ks n t ks h (10000 - n) (.agg xs) (.agg ys) b w (hform xs) (hform ys) hx hy he;rw [show 10000 - n + n = 10000 from Z4] at this;exact this
   ·have := key_ks n t ks h (10000 - n) (.agg xs) e w (hform xs) hx;rw [show 10000 - n + n = 10000 from Z4] at this;exact this
  ·cases h
 ·cases h
def cfgX (G : Nat) (ft : T Func) (tt : T (Option Ty)) (pt : T (Option (List CK))) (dc : Nat → Option Inl) (cd : Inl → Nat) : Cfg := cfgOf G ft tt (fun t => match pt.get t with
 | some (some ks) => some ks
 | _ => none) dc cd
noncomputable def cfgP (_P : Program) (G : Nat) (ft : T Func) (tt : T (Option Ty)) (pt : T (Option (List CK))) : Cfg := cfgX G ft tt pt Ai.dec code
theorem cfgP_ok (G n : Nat) (hm : P.follows .mixedOrders = true) : CfgOk P (cfgP P G (T.ofList P.funcs.toList) (T.ofList ((List.range n).map (tyRow P))) (T.ofList ((List.range n).map (peqOf P 20)))) (okK G) := by
 refine cfg_ok n hm fun t ks h => ?_
 simp only [T.get_ofList] at h;split at h
 ·rename_i ks' hg;cases h;rw [List.getElem?_map, Option.map_eq_some_iff] at hg;obtain ⟨x, hx, e⟩ := hg;have hxt : x = t := by
   by_cases hl : t < n
   ·rw [List.getElem?_range hl] at hx; exact (Option.some.inj hx).symm
   ·rw [List.getElem?_eq_none (by simpa using hl)] at hx; cases hx
  rw [← hxt];exact peq_ok Z4 e
 ·cases h
end
end Go.Ai
/-
  From a call's contract to a law's statement: the law returned true, and what was there stays.
-/
namespace Go.Ai
open Go.ChangeShapes Go.WideShapes Go.RowKit
section
variable {H : Type} {enc : TypeId × Value → H} {P : Program}
theorem carry_all (hl : laidOutB P = true) {W W' : World} (hb : Below W.heap.size W W') : ∀ {ts : List TypeId} {vs : List Value} {ds : List (DataW H)} {ps : List MemPlace}, (∀ t ∈ ts, P.readableRec t = true ∧ t < P.types.size) →
    DataW.TrodAll enc P W 0 (fun _ => true) true ts vs ds ps → (∀ x ∈ ps, x.block < W.heap.size) → DataW.TrodAll enc P W' 0 (fun b => decide (b < W.heap.size)) true ts vs ds ps
  | [], _, _, _, _, h, _ => by
    obtain ⟨rfl, rfl, rfl⟩ := trodAll_nil h;rfl
  | t :: ts, _, _, _, ht, h, hp => by
    obtain ⟨v, vs, d, ds, p, q, rfl, rfl, rfl, h1, h2⟩ := trodAll_cons h;have r1 := ht t (List.mem_cons_self ..);exact ⟨p, q, Below.trod hl r1.1 r1.2 h1 hb fun x hx => hp x (List.mem_append_left _ hx), carry_all hl hb (fun t' ht' => ht t' (List.mem_cons_of_mem _ ht')) h2 fun x hx => hp x (List.mem_append_right _ hx), rfl⟩
theorem post_true {f : Func} {s : ChangeSpec} {apart fresh handsOn : Bool} {W W' : World} {args : Array Value} {ds gs : List (DataW H)} {before : List MemPlace} {tb : TypeId}
  (hW : DataW.Whole enc P f.params.toList s.vars apart W args.toList ds gs before) (hvars : s.vars = []) (hb : Below W.heap.size W W') (hl : laidOutB P = true)
  (hpar : f.params.toList.all (fun t => P.readableRec t && decide (t < P.types.size)) = true) (hres : f.resultTypes = #[tb]) (htb : P.underlying tb = some .bool)
  (hr1 : (s.fn H (ds ++ gs)).results = [.lit (.bool true)]) (hr2 : (s.fn H (ds ++ gs)).args = ds) (hr3 : (s.fn H (ds ++ gs)).vars = []) :
  s.post enc P f apart fresh handsOn false W args (.bool true) W' := by
 have hlt := hW.lt;have hW' := hW;obtain ⟨p, q, hA, hV, rfl, _, _⟩ := hW';rw [hvars] at hV;obtain ⟨rfl, rfl⟩ := trodVars_none hV;refine ⟨ds, [], p ++ [], [], p, [], hW, ?_, ?_, ?_, World.keptBut_mono (fun x hx => ⟨hx, .inr (.inl (by simpa using hx))⟩) (hb.frame (· ∈ p ++ [])), fun h => Z02⟩
 ·rw [hr1, hres];exact ⟨[], [], shut_bool htb true, rfl, rfl⟩
 ·rw [hr2];refine carry_all hl hb (fun t ht => ?_) hA fun x hx => hlt x (List.mem_append_left _ hx)
  have := List.all_eq_true.1 hpar t ht;simpa using this
 ·rw [hr3, hvars];rfl
end
end Go.Ai
/-
  More levels change no answer.
-/
namespace Go.Ai
inductive MLe {α : Type} : M α → M α → Prop where
 | fail (m : M α) : MLe .fail m
 | ret (a : α) : MLe (.ret a) (.ret a)
 | ask (n : Nat) {k k' : Nat → M α} (h : ∀ i, MLe (k i) (k' i)) : MLe (.ask n k) (.ask n k')
theorem MLe.refl {α : Type} : ∀ (m : M α), MLe m m
 | .fail => .fail _
 | .ret a => .ret a
 | .ask n k => .ask n fun i => MLe.refl (k i)
theorem MLe.bind {α γ : Type} {m m' : M α} {f f' : α → M γ} (h : MLe m m') (hf : ∀ a, MLe (f a) (f' a)) : MLe (m.bind f) (m'.bind f') := by
 induction h with
 | fail m => exact .fail _
 | ret a => exact hf a
 | ask n h ih => exact .ask n ih
theorem MLe.all {α : Type} {Q : α → Prop} {m m' : M α} (h : MLe m m') (hq : m.All Q) : m'.All Q := by
 induction h with
 | fail m => exact hq.elim
 | ret a => exact hq
 | ask n h ih => exact ⟨hq.1, fun i hi => ih i (hq.2 i hi)⟩
theorem MLe.trans {α : Type} {a b c : M α} (h : MLe a b) (h' : MLe b c) : MLe a c := by
  induction h generalizing c with
  | fail m => exact .fail _
  | ret a => exact h'
  | ask n h ih =>
    cases h' with
    | ask n h' => exact .ask n fun i => ih i (h' i)
def RecLe (rc rc' : Rec) : Prop := ∀ t s, MLe (rc t s) (rc' t s)
section
variable {C : Cfg} {rc rc' : Rec} (hr : RecLe rc rc')
include hr in
theorem oneOp_mono (e : Env) (s : St) (o : Op) : MLe (oneOp C rc e s o) (oneOp C rc' e s o) := by
 unfold oneOp
 split
 ·exact .refl _
 ·exact .refl _
 ·split
  ·unfold callT
   split
   ·exact .refl _
   ·exact (hr _ _).bind fun _ => .refl _
  ·exact .fail _
 ·exact .refl _
 ·exact .refl _
end
end Go.Ai
/-
  What a run comes to, without counting levels: rules for code.
-/
namespace Go.Ai
section
variable {C : Cfg}
def EvF (C : Cfg) (f : FuncId) (args : List Value) (s : St) (Q : Value → St → Prop) : Prop := ∃ n, (run C n (.call f args) s).All fun x => ∃ v, x.1 = .val v ∧ Q v x.2
def EvC (C : Cfg) (fid : FuncId) (c : Code) (e : Env) (s : St) (Q : Out → Env → St → Prop) : Prop := ∃ n, (execC C (run C n) fid c e s).All fun x => Q x.1 x.2.1 x.2.2
def EvL (C : Cfg) (ops : Array Oper) (l : List Oper) (e : Env) (s : St) (Q : Env → St → Prop) : Prop := ∃ n, (execOps C (run C n) ops l e s).All fun x => Q x.1 x.2
variable {fid : FuncId} {e : Env} {s : St} {Q : Out → Env → St → Prop}
theorem EvF.up {f : FuncId} {args : List Value} {Q Q' : Value → St → Prop} (h : EvF C f args s Q) (hq : ∀ v s', Q v s' → Q' v s') : EvF C f args s Q' :=
 let ⟨n, h⟩ := h
 ⟨n, h.mono fun _ ⟨v, h1, h2⟩ => ⟨v, h1, hq _ _ h2⟩⟩
theorem EvC.up {c : Code} {Q' : Out → Env → St → Prop} (h : EvC C fid c e s Q) (hq : ∀ o e' s', Q o e' s' → Q' o e' s') : EvC C fid c e s Q' :=
 let ⟨n, h⟩ := h
 ⟨n, h.mono fun _ h => hq _ _ _ h⟩
theorem EvL.up {ops : Array Oper} {l : List Oper} {Q Q' : Env → St → Prop} (h : EvL C ops l e s Q) (hq : ∀ e' s', Q e' s' → Q' e' s') : EvL C ops l e s Q' :=
 let ⟨n, h⟩ := h
 ⟨n, h.mono fun _ h => hq _ _ h⟩
end
end Go.Ai
/-
  Rules for the kernel: what runs straight is not printed.
-/
namespace Go.Ai
def isRet {α : Type} : M α → Bool
 | .ret _ => true
 | _ => false
def getEnv : M (Env × St) → Env
 | .ret x => x.1
 | _ => ⟨0, .e⟩
def getSt : M (Env × St) → St
 | .ret x => x.2
 | _ => ⟨.e, 0⟩
theorem isRet_eq {m : M (Env × St)} (h : isRet m = true) : m = .ret (getEnv m, getSt m) := by
 cases m with
 | ret x => rfl
 | fail => cases h
 | ask n k => cases h
section
variable {C : Cfg} {fid : FuncId} {e : Env} {s : St}
def asB : Value → Bool
 | .bool b => b
 | _ => false
theorem EvF.all {f : FuncId} {args : List Value} {R : Value → St → Prop} (h : EvF C f args s R) : ∃ n, (run C n (.call f args) s).All fun x => ∃ v, x.1 = .val v ∧ R v x.2 := h
end
end Go.Ai
/-
  What a call, or a part of the code, comes to for the machine: sets of answers, and how they are put together.
-/
namespace Go.Ai
def Shut (β : Bij) (s : St) : Prop := ∀ i, β.dom i → i < s.n
theorem Shut.free {β : Bij} {s s' : St} (h : Shut β s) : Free β s s' := fun i hi => .inl (h i hi)
theorem Shut.ext {β β' : Bij} {own own' : Nat → Option Nat} {s s' : St} {w w' : World} (h : Shut β s) (e : Ext β own s w β' own' s' w') : Shut β' s' := fun i hi => by
 rcases e.new i hi with h1 | h1
 ·exact Nat.lt_of_lt_of_le (h i h1) e.nle
 ·exact h1.2
structure Sound (P : Program) (G : Nat) (rc : Rec) : Prop where
 grow : RecGrow rc
 call : CallSim P (okK G) G rc
 round : RoundSim P (okK G) G rc
 code : CodeSim P (okK G) G rc
def SC (P : Program) (G : Nat) (f : FuncId) (args : List Value) (s : St) (Q : Value → St → Prop) : Prop :=
 s.WF → ∀ (β : Bij) (own : Nat → Option Nat) (w : World) (args' : Array Value), SR (okK G) β own s.get w → Glob β G → Shut β s → VRs β args args'.toList →
  ∀ cs : List Frame, ∃ v s' β' own' w' v', Q v s' ∧ s'.WF ∧ Grow s s' ∧ Ext β own s w β' own' s' w' ∧ SR (okK G) β' own' s'.get w' ∧ VR β' v v' ∧ (callFunc f args').run P w = .ok (.enter f args') w ∧ CallsTo P cs f args' w v' w'
def SCF (P : Program) (G : Nat) (f : FuncId) (args : List Value) (s : St) (Q : Value → St → Prop) : Prop :=
 s.WF → ∀ (β : Bij) (own : Nat → Option Nat) (w : World) (args' : Array Value), SR (okK G) β own s.get w → Glob β G → (∀ v s', Q v s' → Free β s s') → VRs β args args'.toList →
  ∀ cs : List Frame, ∃ v s' β' own' w' v', Q v s' ∧ s'.WF ∧ Grow s s' ∧ Ext β own s w β' own' s' w' ∧ SR (okK G) β' own' s'.get w' ∧ VR β' v v' ∧ (callFunc f args').run P w = .ok (.enter f args') w ∧ CallsTo P cs f args' w v' w'
def SK (P : Program) (G : Nat) (fid : FuncId) (c : Code) (e : Env) (s : St) (Q : Out → Env → St → Prop) : Prop :=
 s.WF → ∀ (β : Bij) (own : Nat → Option Nat) (w : World) (b : Frame) (t : Array Value) (ds : List Deferred) (n0 : Nat), SR (okK G) β own s.get w → Glob β G → Shut β s → ER β e t → okc G c = true → b.fn = fid → b.roundOf = none →
  Marks n0 ds own w → n0 ≤ w.heap.size →
  ∀ (k : List Item) (cs : List Frame), ∃ o e' s' β' own' w' t' ds', Q o e' s' ∧ s'.WF ∧ Grow s s' ∧ Ext β own s w β' own' s' w' ∧ SR (okK G) β' own' s'.get w' ∧ ER β' e' t' ∧ Marks n0 ds' own' w' ∧ Goes P b (start c) t ds w o t' ds' w' k cs
section
variable {P : Program} {C : Cfg} {G : Nat}
theorem Z2q (H : CfgOk P C (okK G)) (n : Nat) : Sound P G (run C n) := ⟨grow_run n, (run_sim H (draw_sim H) n).1, (run_sim H (draw_sim H) n).2.1, (run_sim H (draw_sim H) n).2.2⟩
theorem Sound.step (H : CfgOk P C (okK G)) {rc : Rec} (h : Sound P G rc) : Sound P G (istep C rc) :=
 let x := istep_sim H (draw_sim H) h.grow h.call h.round h.code
 ⟨grow_istep h.grow, x.1, x.2.1, x.2.2⟩
theorem SC.up {f : FuncId} {args : List Value} {s : St} {Q Q' : Value → St → Prop} (h : SC P G f args s Q) (hq : ∀ v s', Q v s' → Q' v s') : SC P G f args s Q' := fun hw β own w args' h1 h2 h3 h4 cs =>
 let ⟨v, s', β', own', w', v', g1, g2⟩ := h hw β own w args' h1 h2 h3 h4 cs
 ⟨v, s', β', own', w', v', hq _ _ g1, g2⟩
theorem SCF.sc {f : FuncId} {args : List Value} {s : St} {Q : Value → St → Prop} (h : SCF P G f args s Q) : SC P G f args s Q := fun hw β own w args' h1 h2 h3 h4 => h hw β own w args' h1 h2 (fun _ _ _ => h3.free) h4
theorem SK.up {fid : FuncId} {c : Code} {e : Env} {s : St} {Q Q' : Out → Env → St → Prop} (h : SK P G fid c e s Q) (hq : ∀ o e' s', Q o e' s' → Q' o e' s') : SK P G fid c e s Q' := fun hw β own w b t ds n0 h1 h2 h3 h4 h5 h6 h7 h8 h9 k cs =>
 let ⟨o, e', s', β', own', w', t', ds', g1, g2⟩ := h hw β own w b t ds n0 h1 h2 h3 h4 h5 h6 h7 h8 h9 k cs
 ⟨o, e', s', β', own', w', t', ds', hq _ _ _ g1, g2⟩
theorem sk_exec (H : CfgOk P C (okK G)) {rc : Rec} (S : Sound P G rc) {fid : FuncId} {c : Code} {e : Env} {s : St} {Q : Out → Env → St → Prop} (h : (execC C rc fid c e s).All fun x => Q x.1 x.2.1 x.2.2) : SK P G fid c e s Q := by
 intro hw β own w b t ds n0 hs hG hsh he hok hb hr hm hn k cs;obtain ⟨o, e', s', β', own', w', t', ds', h1, h2, h3, h4, h5, h6, h7⟩ := execC_sim H (draw_sim H) S.grow S.call S.round S.code fid b hb n0 c β own s w e t ds hs hw hG he hok (.inl hr) hm hn (h.mono fun x _ => hsh.free) k cs;exact ⟨o, e', s', β', own', w', t', ds', h.has h1, h2, (grow_execC S.grow c e s hw _ h1).1, h3, h4, h5, h6, h7⟩
theorem Z2c {fid : FuncId} {e : Env} {s : St} {Q : Out → Env → St → Prop} (h : Q .normal e s) : SK P G fid .skip e s Q := by
 intro hw β own w b t ds n0 hs hG hsh he hok hb hr hm hn k cs;exact ⟨.normal, e, s, β, own, w, t, ds, h, hw, .refl _, .refl .., hs, he, hm, .one st_skip⟩
theorem sk_exit {fid id : Nat} {e : Env} {s : St} {Q : Out → Env → St → Prop} (h : Q (.exit id) e s) : SK P G fid (.exit id) e s Q := by
 intro hw β own w b t ds n0 hs hG hsh he hok hb hr hm hn k cs;exact ⟨.exit id, e, s, β, own, w, t, ds, h, hw, .refl _, .refl .., hs, he, hm, ⟨k, rfl, .refl _ _⟩⟩
theorem Z2a {fid : Nat} {e : Env} {s : St} {Q : Out → Env → St → Prop} (h : Q .ret e s) : SK P G fid .ret e s Q := by
 intro hw β own w b t ds n0 hs hG hsh he hok hb hr hm hn k cs;exact ⟨.ret, e, s, β, own, w, t, ds, h, hw, .refl _, .refl .., hs, he, hm, ⟨k, .refl _ _⟩⟩
theorem Z28 {fid : FuncId} {x y : Code} {e : Env} {s : St} {Q : Out → Env → St → Prop} (h : SK P G fid x e s fun o e1 s1 => match o with
      | .normal => SK P G fid y e1 s1 Q
      | o => Q o e1 s1) : SK P G fid (.seq x y) e s Q := by
  intro hw β own w b t ds n0 hs hG hsh he hok hb hr hm hn k cs;simp only [okc, Bool.and_eq_true] at hok;obtain ⟨o, e1, s1, β1, own1, w1, t1, ds1, hq, hw1, g1, h2, h3, h4, h5, h6⟩ := h hw β own w b t ds n0 hs hG hsh he hok.1 hb hr hm hn (.code y :: k) cs;have h6 := h6.before (st' := fun k => .code x :: k) (to_start ..);cases o with
  | normal =>
    obtain ⟨o, e2, s2, β2, own2, w2, t2, ds2, q1, qw, g2, q2, q3, q4, q5, q6⟩ := hq hw1 β1 own1 w1 b t1 ds1 n0 h3 (hG.mono h2.le) (hsh.ext h2) h4 hok.2 hb hr h5 (Nat.le_trans hn h2.size) k cs;have q6 := q6.before (st' := fun k => .code y :: k) (to_start ..);refine ⟨o, e2, s2, β2, own2, w2, t2, ds2, q1, qw, g1.trans g2, h2.trans q2, q3, q4, q5, ?_⟩;have first : Steps P (lone (fgo b t ds (start (.seq x y) k)) cs w) (lone (fgo b t1 ds1 (.code y :: k)) cs w1) := .head st_seq h6
    cases o with
    | normal => exact first.trans q6
    | exit id => exact let ⟨k1, r1, r2⟩ := q6; ⟨k1, r1, first.trans r2⟩
    | ret => exact let ⟨k1, r2⟩ := q6; ⟨k1, first.trans r2⟩
  | exit id => exact ⟨.exit id, e1, s1, β1, own1, w1, t1, ds1, hq, hw1, g1, h2, h3, h4, h5, let ⟨k1, r1, r2⟩ := h6; ⟨k1, r1, .head st_seq r2⟩⟩
  | ret => exact ⟨.ret, e1, s1, β1, own1, w1, t1, ds1, hq, hw1, g1, h2, h3, h4, h5, let ⟨k1, r2⟩ := h6; ⟨k1, .head st_seq r2⟩⟩
theorem sk_cond {fid : FuncId} {q : Operand} {x y : Code} {e : Env} {s : St} {Q : Out → Env → St → Prop} {v : Bool} (hv : e.eval q = .bool v) (h1 : v = true → SK P G fid x e s Q) (h2 : v = false → SK P G fid y e s Q) : SK P G fid (.cond q x y) e s Q := by
  intro hw β own w b t ds n0 hs hG hsh he hok hb hr hm hn k cs;simp only [okc, Bool.and_eq_true] at hok;have hq := rho_all hG he q hok.1.1;rw [hv] at hq;cases v with
  | true =>
    obtain ⟨o, e1, s1, β1, own1, w1, t1, ds1, hq1, hw1, g1, g2, g3, g4, g5, g6⟩ := h1 rfl hw β own w b t ds n0 hs hG hsh he hok.1.2 hb hr hm hn k cs;refine ⟨o, e1, s1, β1, own1, w1, t1, ds1, hq1, hw1, g1, g2, g3, g4, g5, g6.before (st' := start (.cond q x y)) (.head (st_cond (bool_inv hq)) ?_)⟩;exact to_start ..
  | false =>
    obtain ⟨o, e1, s1, β1, own1, w1, t1, ds1, hq1, hw1, g1, g2, g3, g4, g5, g6⟩ := h2 rfl hw β own w b t ds n0 hs hG hsh he hok.2 hb hr hm hn k cs;refine ⟨o, e1, s1, β1, own1, w1, t1, ds1, hq1, hw1, g1, g2, g3, g4, g5, g6.before (st' := start (.cond q x y)) (.head (st_cond (bool_inv hq)) ?_)⟩;exact to_start ..
theorem Z2s {fid id : Nat} {x : Code} {e : Env} {s : St} {Q : Out → Env → St → Prop} (h : SK P G fid x e s fun o e1 s1 => match o with
      | .exit i => if i = id then Q .normal e1 s1 else Q (.exit i) e1 s1
      | o => Q o e1 s1) : SK P G fid (.block id x) e s Q := by
  intro hw β own w b t ds n0 hs hG hsh he hok hb hr hm hn k cs;obtain ⟨o, e1, s1, β1, own1, w1, t1, ds1, hq, hw1, g1, h2, h3, h4, h5, h6⟩ := h hw β own w b t ds n0 hs hG hsh he hok hb hr hm hn (.inBlock id :: k) cs;have h6 := h6.before (st' := fun k => .code x :: k) (to_start ..);cases o with
  | normal => exact ⟨.normal, e1, s1, β1, own1, w1, t1, ds1, hq, hw1, g1, h2, h3, h4, h5, .head st_block (h6.trans (.one st_inBlock))⟩
  | exit i =>
    by_cases hi : i = id
    · subst hi
      simp only [if_true] at hq;refine ⟨.normal, e1, s1, β1, own1, w1, t1, ds1, hq, hw1, g1, h2, h3, h4, h5, ?_⟩;obtain ⟨k1, r1, r2⟩ := h6;have : exitTo i k1 = some k := by rw [r1]; simp [exitTo]
      exact .head st_block (r2.trans (.one (st_exit this)))
    · simp only [if_neg hi] at hq
      refine ⟨.exit i, e1, s1, β1, own1, w1, t1, ds1, hq, hw1, g1, h2, h3, h4, h5, ?_⟩;obtain ⟨k1, r1, r2⟩ := h6;refine ⟨k1, ?_, .head st_block r2⟩;rw [r1];have : ¬ id = i := fun h => hi h.symm
      simp [exitTo, this]
  | ret => exact ⟨.ret, e1, s1, β1, own1, w1, t1, ds1, hq, hw1, g1, h2, h3, h4, h5, let ⟨k1, r2⟩ := h6; ⟨k1, .head st_block r2⟩⟩
theorem sk_loop {fid : Nat} {x : Code} {e : Env} {s : St} {Q : Out → Env → St → Prop} (h : SK P G fid x e s fun o e1 s1 => match o with
      | .normal => SK P G fid (.loop x) e1 s1 Q
      | o => Q o e1 s1) : SK P G fid (.loop x) e s Q := by
  intro hw β own w b t ds n0 hs hG hsh he hok hb hr hm hn k cs;obtain ⟨o, e1, s1, β1, own1, w1, t1, ds1, hq, hw1, g1, h2, h3, h4, h5, h6⟩ := h hw β own w b t ds n0 hs hG hsh he hok hb hr hm hn (.inLoop x :: k) cs;have h6 := h6.before (st' := fun k => .code x :: k) (to_start ..);cases o with
  | normal =>
    obtain ⟨o, e2, s2, β2, own2, w2, t2, ds2, q1, qw, g2, q2, q3, q4, q5, q6⟩ := hq hw1 β1 own1 w1 b t1 ds1 n0 h3 (hG.mono h2.le) (hsh.ext h2) h4 hok hb hr h5 (Nat.le_trans hn h2.size) k cs;refine ⟨o, e2, s2, β2, own2, w2, t2, ds2, q1, qw, g1.trans g2, h2.trans q2, q3, q4, q5, ?_⟩;have first : Steps P (lone (fgo b t ds (start (.loop x) k)) cs w) (lone (fgo b t1 ds1 (start (.loop x) k)) cs w1) := h6.trans (.one st_inLoop)
    cases o with
    | normal => exact first.trans q6
    | exit id => exact let ⟨k1, r1, r2⟩ := q6; ⟨k1, r1, first.trans r2⟩
    | ret => exact let ⟨k1, r2⟩ := q6; ⟨k1, first.trans r2⟩
  | exit id => exact ⟨.exit id, e1, s1, β1, own1, w1, t1, ds1, hq, hw1, g1, h2, h3, h4, h5, let ⟨k1, r1, r2⟩ := h6; ⟨k1, r1, r2⟩⟩
  | ret => exact ⟨.ret, e1, s1, β1, own1, w1, t1, ds1, hq, hw1, g1, h2, h3, h4, h5, let ⟨k1, r2⟩ := h6; ⟨k1, r2⟩⟩
theorem sc_body (H : CfgOk P C (okK G)) {f : FuncId} {fn : Func} {c : Code} {args : List Value} {s : St} {Q : Value → St → Prop} (hfn : C.fn f = some fn) (hbd : fn.body = some c)
    (h : SK P G f c (Env.start fn.ntmps args) s fun o e1 s1 => match o with
      | .exit _ => False
      | _ => ∃ vs, resultsV C s1 e1 fn.results.toList = some vs ∧ Q (oneOrTuple vs) s1) : SC P G f args s Q := by
  intro hw β own w args' hs hG hsh ha cs;obtain ⟨p1, p2, p3⟩ := H.fn f fn hfn;let b : Frame := { fn := f, tmps := #[], todo := [], defers := [], mode := .run, kind := .normal }
  obtain ⟨o, e1, s1, β1, own1, w1, t1, ds1, hq, hw1, g1, h2, h3, h4, h5, h6⟩ := h hw β own w b _ [] w.heap.size hs hG hsh (er_start ha fn.ntmps) (p3 c hbd) rfl rfl (.nil ..) (Nat.le_refl _) [] cs;have h6 := h6.before (st' := fun k => .code c :: k) (to_start ..);obtain ⟨bs, rfl, m2, m3⟩ := h5;obtain ⟨w2, q1, q2, q3, q4, q5, q6, q8, q7⟩ := pop_marks (P := P) bs w1 h3 m2 fun b hb => (m3 b hb).2
  have e2 : Ext β own s w β1 own1 s1 w2 := h2.other q2 (fun b hb => q3 b fun hm => by have := (m3 b hm).1; omega) q4 q5 q6;have henter : Frame.enter P f args' .normal = fgo b (args' ++ Array.replicate (fn.ntmps - args'.size) undef) [] [.code c] := by simp [Frame.enter, fgo, p1, hbd, b]
  have hcf := callFunc_sim (w := w) H hfn hbd args';have fin : (∃ vs, resultsV C s1 e1 fn.results.toList = some vs ∧ Q (oneOrTuple vs) s1) → (∃ k1, Steps P (lone (Frame.enter P f args' .normal) cs w) (lone { fgo b t1 (bs.map markOf) k1 with mode := .returning } cs w1)) →
      ∃ v s' β' own' w' v', Q v s' ∧ s'.WF ∧ Grow s s' ∧ Ext β own s w β' own' s' w' ∧ SR (okK G) β' own' s'.get w' ∧ VR β' v v' ∧ (callFunc f args').run P w = .ok (.enter f args') w ∧ CallsTo P cs f args' w v' w' := by
    intro hall hst;obtain ⟨vs, hrs, hq⟩ := hall;obtain ⟨v', r1, r2⟩ := run_results H q1 h4 hrs;refine ⟨oneOrTuple vs, s1, β1, own1, w2, v', hq, hw1, g1, e2, q1, r2, hcf, ?_⟩;obtain ⟨k1, hk⟩ := hst;exact ⟨_, hk.trans (q7 _ rfl rfl cs), rfl, rfl, rfl, rfl, fn, p1, r1⟩
  cases o with
  | exit id => exact hq.elim
  | normal =>
    refine fin hq ⟨[], ?_⟩;rw [henter];exact h6.trans (.one (st_end rfl))
  | ret =>
    refine fin hq ?_;rw [henter];obtain ⟨k1, hk⟩ := h6;exact ⟨_, hk.trans (.one (st_ret rfl))⟩
abbrev Contract := FuncId → List Value → St → Value → St → Prop
structure SpecOk (P : Program) (G : Nat) (S : Contract) : Prop where
 call : ∀ f args s v s', S f args s v s' → SCF P G f args s fun v1 s1 => v1 = v ∧ s1 = s'
 grow : ∀ f args s v s', S f args s v s' → s.WF → s'.WF ∧ Grow s s'
open Classical in
noncomputable def over (fs : List FuncId) (S : Contract) (rc : Rec) : Rec
 | .call f args, s => bif fs.contains f then (if h : ∃ x : Value × St, S f args s x.1 x.2 then .ret (.val h.choose.1, h.choose.2) else .fail) else rc (.call f args) s
 | t, s => rc t s
theorem over_hit {fs : List FuncId} {S : Contract} {rc : Rec} {f : FuncId} {args : List Value} {s s' : St} {v : Value} (hf : fs.contains f = true) (h : S f args s v s') :
  ∃ v1 s1, S f args s v1 s1 ∧ over fs S rc (.call f args) s = .ret (.val v1, s1) := by
 have hx : ∃ x : Value × St, S f args s x.1 x.2 := ⟨(v, s'), h⟩;refine ⟨hx.choose.1, hx.choose.2, hx.choose_spec, ?_⟩;simp only [over, hf, cond_true, dif_pos hx]
theorem sound_over {fs : List FuncId} {S : Contract} {rc : Rec} (hS : SpecOk P G S) (h : Sound P G rc) : Sound P G (over fs S rc) where
  grow := by
    intro t s hw x hx;cases t with
    | call f args =>
      cases hf : fs.contains f with
      | false => simp only [over, hf, cond_false] at hx; exact h.grow _ _ hw _ hx
      | true =>
        simp only [over, hf, cond_true] at hx;split at hx
        · rename_i hex
          cases hx;exact (hS.grow _ _ _ _ _ hex.choose_spec hw).symm
        · cases hx
    | code fid c e => exact h.grow (.code fid c e) _ hw _ hx
    | round l args => exact h.grow (.round l args) _ hw _ hx
  call := by
    intro β own s w f args args' hs hw hG ha hf cs;cases hc : fs.contains f with
    | false =>
      simp only [over, hc, cond_false] at hf ⊢;exact h.call β own s w f args args' hs hw hG ha hf cs
    | true =>
      simp only [over, hc, cond_true] at hf ⊢;split at hf
      · rename_i hex
        rw [dif_pos hex];obtain ⟨v, s', β', own', w', v', ⟨rfl, rfl⟩, _, _, h2, h3, h4, h5, h6⟩ := hS.call _ _ _ _ _ hex.choose_spec hw β own w args' hs hG (by rintro v s' ⟨rfl, rfl⟩; exact hf) ha cs;exact ⟨_, _, β', own', w', v', .ret _, h2, h3, h4, h5, h6⟩
      · exact hf.elim
  round := h.round
  code := h.code
end
end Go.Ai