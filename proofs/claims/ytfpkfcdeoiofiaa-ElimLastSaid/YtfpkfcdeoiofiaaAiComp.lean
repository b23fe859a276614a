/- The interpreter: what holds of it. -/
import Derived.Test.YtfpkfcdeoiofiaaAiCon
set_option linter.unusedVariables false
set_option linter.unusedSimpArgs false
set_option linter.unnecessarySimpa false
/-
  Parts of rows that are written, cleared and handed back.
-/
namespace Go.Ai
/-- a part of a row -/
def ssL (id sz o n tot : Nat) : Value := .slice (some ⟨id, o * sz, some (tot * sz)⟩) n sz
section
variable {α : Type} {f : α → List Value} {l : List α} {sz : Nat} {C : Cfg} {s : St}
theorem load_rowM {t : TypeId} (ht : aggTy C t sz = true) (hf : ∀ x, (f x).length = sz) {id i mv n : Nat} {x : α} (hg : s.get id = some (rowM f mv l)) (hn : n = l.length) (hm : mv ≤ n * sz) (hi : l[i]? = some x) : loadV C s t (.pointer (some ⟨id, i * sz, some (n * sz)⟩)) = some (.agg (f x).toArray) := by
  subst hn
  have hl := (List.getElem?_eq_some_iff.1 hi).1
  have hm2 := Nat.mul_le_mul_right sz (show i + 1 ≤ l.length from hl)
  rw [Nat.succ_mul] at hm2
  unfold aggTy at ht
  split at ht
  · rename_i ty hty
    rw [Bool.and_eq_true] at ht
    have e1 := Nat.eq_of_beq_eq_true ht.2
    unfold loadV
    rw [hty]
    simp only [ht.1, if_true, St.cellsAt, hg, rowM]
    rw [e1, if_pos ⟨hm, by rw [flatL_len hf]; exact Nat.le_refl _, by omega⟩, flatL_at hf hi]
    rfl
  · cases ht
theorem load_rowM1 {t : TypeId} {o : Nat} (ht : oneTy C t = true) (hf : ∀ x, (f x).length = sz) {id i mv n : Nat} {x : α} {v : Value} (hg : s.get id = some (rowM f mv l)) (hn : n = l.length) (hm : mv ≤ n * sz) (hi : l[i]? = some x) (hv : (f x)[o]? = some v) : loadV C s t (.pointer (some ⟨id, i * sz + o, some (n * sz)⟩)) = some v := by
  subst hn
  have hl := (List.getElem?_eq_some_iff.1 hi).1
  have ho : o < sz := by have := (List.getElem?_eq_some_iff.1 hv).1; rwa [hf] at this
  have hm2 := Nat.mul_le_mul_right sz (show i + 1 ≤ l.length from hl)
  rw [Nat.succ_mul] at hm2
  have hlen := flatL_len (l := l) hf
  have h1 : ((flatL f l).drop (i * sz + o)).take 1 = [v] := by
    rw [flatL_sub hf hi (by omega)]
    rw [List.drop_eq_getElem_cons (by rw [hf]; exact ho)]
    rw [List.getElem?_eq_getElem (by rw [hf]; exact ho)] at hv
    rw [Option.some.inj hv]
    rfl
  unfold oneTy at ht
  split at ht
  · rename_i ty hty
    have ht : TypeDesc.agg ty.desc = false := by simpa using ht
    unfold loadV
    rw [hty]
    simp only [ht, Bool.false_eq_true, if_false, St.cellsAt, hg, rowM]
    rw [if_pos ⟨hm, by rw [hlen]; exact Nat.le_refl _, by omega⟩, h1]
  · cases ht
/-- one cell of an element is written -/
theorem store_rowP {t : TypeId} {o : Nat} (ht : oneSz C t = true) (hf : ∀ x, (f x).length = sz) (ho : ∀ x, (f x).all one = true) {id i mv n : Nat} {x x' : α} {v : Value} (hg : s.get id = some (rowM f mv l)) (hn : n = l.length) (hm : mv ≤ n * sz) (hi : l[i]? = some x) (hb : o < sz) (hx : f x' = (f x).set o v) (hv : v.cells = #[v]) (h1 : one v = true) :
    storeV C s t (.pointer (some ⟨id, i * sz + o, some (n * sz)⟩)) v = some (s.set id (rowM f (n * sz) (l.set i x'))) := by
  subst hn
  have hl := (List.getElem?_eq_some_iff.1 hi).1
  have hm2 := Nat.mul_le_mul_right sz (show i + 1 ≤ l.length from hl)
  rw [Nat.succ_mul] at hm2
  have hlen := flatL_len (l := l) hf
  unfold oneSz at ht
  split at ht
  · rename_i ty hty
    have e1 := Nat.eq_of_beq_eq_true ht
    unfold storeV
    rw [hty]
    have hs : v.cells.size = ty.size := by rw [e1, hv]; rfl
    refine (if_pos hs).trans ?_
    rw [hv]
    show s.putCells _ [v] = _
    unfold St.putCells
    simp only [hg, rowM]
    rw [if_pos ⟨hm, hlen.symm, by simp; omega, by simp [h1]⟩, ← flatL_set hf hl, hx]
    have key : splice (flatL f l) (i * sz + o) [v] = splice (flatL f l) (i * sz) ((f x).set o v) := by
      apply List.ext_getElem?
      intro j
      have q1 : i * sz + o + [v].length ≤ (flatL f l).length := by simp; omega
      have q2 : i * sz + ((f x).set o v).length ≤ (flatL f l).length := by rw [List.length_set, hf]; omega
      rw [splice_get _ _ _ q1, splice_get _ _ _ q2]
      have hset : ((f x).set o v).length = sz := by rw [List.length_set, hf]
      by_cases h3 : i * sz + o ≤ j ∧ j < i * sz + o + [v].length
      · have : j = i * sz + o := by simp at h3; omega
        subst this
        rw [if_pos h3, if_pos (by rw [hset]; omega)]
        simp [List.getElem?_set, hf, hb]
      · rw [if_neg h3]
        by_cases h4 : i * sz ≤ j ∧ j < i * sz + ((f x).set o v).length
        · rw [if_pos h4]
          rw [hset] at h4
          have h5 : o ≠ j - i * sz := by simp at h3; omega
          rw [List.getElem?_set_ne h5]
          have := flatL_sub (o := j - i * sz) (w := 1) hf hi (by omega)
          have := congrArg (fun z => z[0]?) this
          simpa [List.getElem?_take, List.getElem?_drop, show i * sz + (j - i * sz) = j by omega] using this
        · rw [if_neg h4]
    rw [key]
  · cases ht
theorem idx_ss {t : TypeId} (ht : slTy C t sz = true) {id o n h i : Nat} {k : IntKind} (hi : i < n) : indexAddrV C t (.slice (some ⟨id, o * sz, some h⟩) n sz) (.int k i) = some (.pointer (some ⟨id, (o + i) * sz, some h⟩)) := by
  unfold slTy at ht
  split at ht
  · rename_i elem _ _ _ _ _ hty
    split at ht
    · rename_i et het
      have := Nat.eq_of_beq_eq_true ht
      unfold indexAddrV
      rw [hty]
      simp only [het]
      rw [if_pos ⟨this, by omega, by omega⟩]
      unfold Addr.plus
      rw [Nat.add_mul]
      rfl
    · cases ht
  · cases ht
theorem idx_ssE {t : TypeId} (ht : slTy C t sz = true) {id o n h i m : Nat} {k : IntKind} (hi : i < n) (hm : o + i = m) : indexAddrV C t (.slice (some ⟨id, o * sz, some h⟩) n sz) (.int k i) = some (.pointer (some ⟨id, m * sz, some h⟩)) := hm ▸ idx_ss ht hi
theorem idx_rowI {t : TypeId} (ht : slTy C t sz = true) {id n i : Nat} {j : Int} {k : IntKind} (hj : j = (i : Int)) (hi : i < n) : indexAddrV C t (slL id sz n) (.int k j) = some (.pointer (some ⟨id, i * sz, some (n * sz)⟩)) := hj ▸ idx_rowL ht hi
theorem cut_lo_row {t : TypeId} (ht : slTy C t sz = true) {id n m : Nat} {k : IntKind} (h : m ≤ n) : sliceV C t (slL id sz n) (some (.int k m)) none none = some (ssL id sz m (n - m) n) := by
  unfold slTy at ht
  split at ht
  · rename_i elem _ _ _ _ _ hty
    split at ht
    · rename_i et het
      have := Nat.eq_of_beq_eq_true ht
      unfold sliceV slL
      rw [hty]
      simp only [bnd_lo h, het]
      rw [if_pos this]
      unfold Addr.plus ssL
      rw [Nat.zero_add]
    · cases ht
  · cases ht
theorem cut_hi_row {t : TypeId} (ht : slTy C t sz = true) {id n m : Nat} {k : IntKind} (h : m ≤ n) : sliceV C t (slL id sz n) none (some (.int k m)) none = some (ssL id sz 0 m n) := by
  unfold slTy at ht
  split at ht
  · rename_i elem _ _ _ _ _ hty
    split at ht
    · rename_i et het
      have := Nat.eq_of_beq_eq_true ht
      unfold sliceV slL
      rw [hty]
      simp only [bnd_hi h, het]
      rw [if_pos this]
      unfold Addr.plus ssL
      rw [Nat.zero_add]
      rfl
    · cases ht
  · cases ht
/-- the cells of a slice type's zero element -/
def clrZ (C : Cfg) (t : TypeId) (sz : Nat) : Option (List Value) :=
  match C.ty t with
  | some { desc := .slice elem, .. } => match C.ty elem with
    | some { size := k, zero := some z, .. } => if k = sz ∧ sz = z.cells.size ∧ 0 < sz then some z.cells.toList else none
    | _ => none
  | _ => none
theorem zeros_flat (z : α) : ∀ n, zeros (f z) n = flatL f (List.replicate n z)
  | 0 => rfl
  | n + 1 => by
    show f z ++ zeros (f z) n = _
    rw [zeros_flat z n]; rfl
theorem clear_ss {t : TypeId} {z : α} (ht : clrZ C t sz = some (f z)) (hf : ∀ x, (f x).length = sz) (ho : ∀ x, (f x).all one = true) {id o n mv tot : Nat} (hg : s.get id = some (rowM f mv l)) (hn : tot = l.length) (hm : mv ≤ tot * sz) (hpos : 0 < n) (hb : o + n = tot) :
    builtinV C s .clear #[t] [ssL id sz o n tot] = some (.tuple #[], s.set id (rowM f (tot * sz) (l.take o ++ List.replicate n z))) := by
  show clearV C s t (ssL id sz o n tot) = _
  unfold clrZ at ht
  unfold clearV ssL
  split at ht
  · rename_i elem _ _ _ _ _ hty
    rw [hty]
    dsimp only
    rw [if_neg (by omega)]
    split at ht
    · rename_i zz _ _ het
      split at ht
      · rename_i hq
        have hz := Option.some.inj ht
        rw [het]
        dsimp only
        rw [if_pos hq, hz, zeros_flat]
        have hl1 : (flatL f (List.replicate n z)).length = n * sz := by rw [flatL_len hf, List.length_replicate]
        have hl2 : (flatL f l).length = tot * sz := by rw [flatL_len hf, hn]
        have hbs : o * sz + n * sz = tot * sz := by rw [← Nat.add_mul, hb]
        have hput : s.putCells ⟨id, o * sz, some (tot * sz)⟩ (flatL f (List.replicate n z)) = some (s.set id (rowM f (tot * sz) (l.take o ++ List.replicate n z))) := by
          unfold St.putCells
          simp only [hg, rowM]
          rw [if_pos ⟨hm, hl2.symm, by rw [hl1]; omega, flatL_one ho⟩]
          have : splice (flatL f l) (o * sz) (flatL f (List.replicate n z)) = flatL f (l.take o ++ List.replicate n z) := by
            unfold splice
            rw [hl1, hbs, ← hl2, List.drop_length, List.append_nil, flatL_append]
            congr 1
            have h1 : flatL f l = flatL f (l.take o) ++ flatL f (l.drop o) := by rw [← flatL_append, List.take_append_drop]
            have h2 : (flatL f (l.take o)).length = o * sz := by rw [flatL_len hf, List.length_take]; congr 1; omega
            rw [h1, ← h2, List.take_left]
          rw [this]
        rw [hput]; rfl
      · cases ht
    · cases ht
  · cases ht
theorem append_moreM {t : TypeId} {bytes : Nat} (ht : appTy C t sz bytes = true) {id len n hi mv : Nat} {y : Value} {cs news : List Value} (hg : s.get id = some (.arr cs mv false)) (hm : mv ≤ hi) (hhi : hi = cs.length) (hcs : len * sz = cs.length) (hl : lenV C y = some n) (hf : firstV C s sz n y = some news)
    (ho : news.all one = true) (hb : (len + n) * bytes ≤ 140737488355328) (hn : n = 0 → news = []) :
    appendV C s t (.slice (some ⟨id, 0, some hi⟩) len sz) y = some (.slice (some ⟨id, 0, some (hi + n * sz)⟩) (len + n) sz, s.set id (.arr (cs ++ news) mv false)) := by
  subst hhi
  unfold appTy at ht
  split at ht
  · rename_i elem _ _ _ _ _ hty
    split at ht
    · rename_i sz' b' z _ _ het
      simp only [Bool.and_eq_true, Nat.blt_eq] at ht
      obtain ⟨⟨⟨⟨e1, e2⟩, h1⟩, h2⟩, h3⟩ := ht
      have e1 := Nat.eq_of_beq_eq_true e1
      have e2 := Nat.eq_of_beq_eq_true e2
      have h1 := Nat.eq_of_beq_eq_true h1
      subst e1; subst e2
      unfold appendV
      rw [hty]
      simp only [het]
      rw [if_pos ⟨h1, h2, h3⟩, hl]
      simp only
      rw [hf]
      simp only [if_true]
      by_cases hn0 : n = 0
      · subst hn0
        rw [hn rfl, List.append_nil, St.set_same hg]
        simp
      · rw [if_neg hn0, if_pos ⟨hb, ho⟩, hg]
        simp only
        rw [if_pos ⟨hm, Nat.le_refl _, by omega⟩, if_pos (by omega)]
    · cases ht
  · cases ht
theorem app_rowM (H : TokC C) {t : TypeId} {bytes : Nat} (ht : appTy C t sz bytes = true) (hf : ∀ x, (f x).length = sz) (ho : ∀ x, (f x).all one = true) {id mv : Nat} {y : Value} {l2 : List α} (hg : s.get id = some (rowM f mv l)) (hm : mv ≤ l.length * sz) (hl : lenV C y = some l2.length) (hn : firstV C s sz l2.length y = some (flatL f l2))
    (hb : (l.length + l2.length) * bytes ≤ 140737488355328) : appendV C s t (slL id sz l.length) y = some (slL id sz (l ++ l2).length, s.set id (rowM f mv (l ++ l2))) := by
  have := append_moreM (C := C) (s := s) ht hg hm (flatL_len hf).symm (flatL_len hf).symm hl hn (flatL_one ho) hb (fun h => by rw [List.eq_nil_of_length_eq_zero h]; rfl)
  unfold slL rowM
  rw [this, flatL_append, List.length_append, Nat.add_mul]
theorem max_int (x y : Int) : (if y > x then y else x) = max x y := by
  rw [Int.max_def]; split <;> split <;> omega
/-- a written row, frozen -/
theorem fs_slM {k id mv n : Nat} (hz : 0 < sz) (hf : ∀ x, (f x).length = sz) (hc : ∀ x, clo.cloL (f x) = true) (ho : ∀ x, (f x).all one = true) (hk : k ≤ id) (hg : s.get id = some (rowM f mv l)) (hn : n = l.length) (hm : mv ≤ n * sz) : FS k s (slL id sz n) (inlL f sz l) := by
  subst hn
  have hl := flatL_len (l := l) hf
  refine .row hk hg hm (by omega) hz ?_ (flatL_clo hc) (flatL_one ho)
  rw [List.drop_zero, List.take_of_length_le (by omega)]
  have : ∀ q : List Value, clo.cloL q = true → FSL k s q q := by
    intro q
    induction q with
    | nil => exact fun _ => .nil
    | cons v q ih =>
      intro h
      simp only [clo.cloL, Bool.and_eq_true] at h
      exact .cons (.same (sub_clo h.1)) (ih h.2)
  exact this _ (flatL_clo hc)
theorem rowm_iff (hf : ∀ x, (f x).length = sz) (hi : ∀ l l' : List α, rowL f l = rowL f l' ↔ l = l') {m n : Nat} {l l' : List α} : rowM f m l = rowM f n l' ↔ m = n ∧ l = l' := by
  unfold rowM
  unfold rowL at hi
  simp only [AObj.arr.injEq, and_true] at hi ⊢
  rw [hi, and_comm]
/-- the front of a row, frozen -/
theorem fs_ss {k id mv m tot : Nat} (hz : 0 < sz) (hf : ∀ x, (f x).length = sz) (hc : ∀ x, clo.cloL (f x) = true) (ho : ∀ x, (f x).all one = true) (hk : k ≤ id) (hg : s.get id = some (rowM f mv l)) (hn : tot = l.length) (hm : mv ≤ tot * sz) (hb : m ≤ tot) : FS k s (ssL id sz 0 m tot) (inlL f sz (l.take m)) := by
  subst hn
  have hlen : (l.take m).length = m := by rw [List.length_take]; omega
  have hle := Nat.mul_le_mul_right sz hb
  have h1 : flatL f l = flatL f (l.take m) ++ flatL f (l.drop m) := by rw [← flatL_append, List.take_append_drop]
  have h2 : (flatL f (l.take m)).length = m * sz := by rw [flatL_len hf, hlen]
  have key : FS k s (.slice (some ⟨id, 0 * sz, some (l.length * sz)⟩) m sz) (inl m sz (flatL f (l.take m))) := by
    refine .row hk hg hm (by rw [Nat.zero_mul]; omega) hz ?_ (flatL_clo hc) (flatL_one ho)
    rw [Nat.zero_mul, List.drop_zero, h1, ← h2, List.take_left]
    have : ∀ q : List Value, clo.cloL q = true → FSL k s q q := by
      intro q
      induction q with
      | nil => exact fun _ => .nil
      | cons v q ih =>
        intro h
        simp only [clo.cloL, Bool.and_eq_true] at h
        exact .cons (.same (sub_clo h.1)) (ih h.2)
    exact this _ (flatL_clo hc)
  have : inlL f sz (l.take m) = inl m sz (flatL f (l.take m)) := by unfold inlL; rw [hlen]
  rw [this]
  exact key
end
end Go.Ai
/-
  Maps that count: keys with numbers, as a Lean list.
-/
namespace Go.Ai

section
set_option linter.unusedSectionVars false
variable {α : Type} [DecidableEq α] {kc : α → List Value} {C : Cfg} {s : St}
/-- where a key stands (or the end) -/
def pos (L : List (α × Nat)) (k : α) : Nat := L.findIdx fun p => decide (p.1 = k)
def insC (L : List (α × Nat)) (k : α) : List (α × Nat) := if pos L k < L.length then L else L ++ [(k, 0)]
def getC (L : List (α × Nat)) (k : α) : Nat := match L[pos L k]? with
  | some p => p.2
  | none => 0
def bump (L : List (α × Nat)) (k : α) : List (α × Nat) := (insC L k).set (pos L k) (k, getC L k + 1)
/-- the map's entries -/
def entsOf (kc : α → List Value) : Nat → List (α × Nat) → List MapEntry
  | _, [] => []
  | i, p :: r => { key := .agg ⟨kc p.1⟩, val := .int .i64 (p.2 : Int), born := i } :: entsOf kc (i + 1) r
def mapC (kc : α → List Value) (L : List (α × Nat)) : AObj := .map (entsOf kc 0 L) L.length
theorem ents_len : ∀ (i : Nat) (L : List (α × Nat)), (entsOf kc i L).length = L.length
  | _, [] => rfl
  | i, p :: r => by rw [entsOf, List.length_cons, ents_len (i + 1) r, List.length_cons]
theorem ents_get : ∀ (i j : Nat) (L : List (α × Nat)), (entsOf kc i L)[j]? = L[j]?.map fun p => { key := .agg ⟨kc p.1⟩, val := .int .i64 (p.2 : Int), born := i + j }
  | _, _, [] => by simp [entsOf]
  | i, 0, p :: r => by simp [entsOf]
  | i, j + 1, p :: r => by
    rw [entsOf, List.getElem?_cons_succ, ents_get (i + 1) j r, List.getElem?_cons_succ, show i + 1 + j = i + (j + 1) from by omega]
theorem ents_eq {i : Nat} {L : List (α × Nat)} {es : List MapEntry} (hl : es.length = L.length) (h : ∀ j p, L[j]? = some p → es[j]? = some ({ key := .agg ⟨kc p.1⟩, val := .int .i64 (p.2 : Int), born := i + j } : MapEntry)) : es = entsOf kc i L := by
  refine List.ext_getElem? fun j => ?_
  rw [ents_get]
  cases hj : L[j]? with
  | none =>
    have := List.getElem?_eq_none_iff.1 hj
    exact List.getElem?_eq_none (by omega)
  | some p => exact h j p hj
theorem pos_cons {p : α × Nat} {r : List (α × Nat)} {k : α} : pos (p :: r) k = if p.1 = k then 0 else pos r k + 1 := by
  unfold pos
  rw [List.findIdx_cons]
  by_cases h : p.1 = k
  · simp [h]
  · simp [h]
theorem pos_le (L : List (α × Nat)) (k : α) : pos L k ≤ L.length := List.findIdx_le_length
theorem findK_pos (hk : ∀ x y : α, keyEq (.agg ⟨kc x⟩) (.agg ⟨kc y⟩) = some (decide (x = y))) (k : α) : ∀ (L : List (α × Nat)) (i j : Nat), findK (.agg ⟨kc k⟩) (entsOf kc i L) j = some (L[pos L k]?.map fun p => (j + pos L k, { key := .agg ⟨kc p.1⟩, val := .int .i64 (p.2 : Int), born := i + pos L k }))
  | [], i, j => by simp [entsOf, findK]
  | p :: r, i, j => by
    rw [entsOf, findK]
    simp only [hk]
    rw [pos_cons]
    by_cases h : p.1 = k
    · rw [if_pos h, decide_eq_true h.symm]
      rfl
    · rw [if_neg h, decide_eq_false (fun e => h e.symm)]
      simp only
      rw [findK_pos hk k r (i + 1) (j + 1), List.getElem?_cons_succ, show j + 1 + pos r k = j + (pos r k + 1) from by omega, show i + 1 + pos r k = i + (pos r k + 1) from by omega]
theorem pos_hit {L : List (α × Nat)} {k : α} {p : α × Nat} (h : L[pos L k]? = some p) : p.1 = k := by
  obtain ⟨h1, rfl⟩ := List.getElem?_eq_some_iff.1 h
  have := List.findIdx_getElem (p := fun p : α × Nat => decide (p.1 = k)) (w := h1)
  exact of_decide_eq_true this
/-- maps from structs to ints -/
def mcTy (C : Cfg) (t : TypeId) (k : Nat) : Bool :=
  match C.ty t with
  | some { desc := .map kt et, .. } => (match C.ty et with
    | some { desc := .int .i64, zero := some (.int .i64 0), .. } => Nat.beq kt k
    | _ => false)
  | _ => false
theorem mc_ty {t : TypeId} {k : Nat} (h : mcTy C t k = true) : ∃ et size bytes zero meth cmp size2 bytes2 meth2 cmp2, C.ty t = some ⟨.map k et, size, bytes, zero, meth, cmp⟩ ∧ C.ty et = some ⟨.int .i64, size2, bytes2, some (.int .i64 0), meth2, cmp2⟩ := by
  unfold mcTy at h
  split at h
  · rename_i kt et _ _ _ _ _ h1
    split at h
    · rename_i h2
      obtain rfl := Nat.eq_of_beq_eq_true h
      exact ⟨_, _, _, _, _, _, _, _, _, _, h1, h2⟩
    · cases h
  · cases h
theorem entry_C {t : TypeId} {kt : Nat} (ht : mcTy C t kt = true) (hk : ∀ x y : α, keyEq (.agg ⟨kc x⟩) (.agg ⟨kc y⟩) = some (decide (x = y))) {k : α} (ho : keyOk C kt (.agg ⟨kc k⟩) = true) {id : Nat} {L : List (α × Nat)} (hg : s.get id = some (mapC kc L)) :
    mapEntryV C s t (.map (some id)) (.agg ⟨kc k⟩) = some (.tuple #[.int .i64 (getC L k : Nat), .int .i64 (pos L k : Nat)], s.set id (mapC kc (insC L k))) := by
  obtain ⟨et, _, _, _, _, _, _, _, _, _, h1, h2⟩ := mc_ty ht
  unfold mapEntryV
  rw [h1]
  simp only
  rw [hg]
  unfold mapC
  simp only
  rw [if_pos ho, findK_pos hk k L 0 0]
  cases hp : L[pos L k]? with
  | none =>
    have hl := List.getElem?_eq_none_iff.1 hp
    have hpl : pos L k = L.length := by have := pos_le L k; omega
    simp only [Option.map_none, h2]
    have e : insC L k = L ++ [(k, 0)] := if_neg (by omega)
    rw [e]
    have e2 : entsOf kc 0 L ++ [({ key := .agg ⟨kc k⟩, val := .int .i64 0, born := L.length } : MapEntry)] = entsOf kc 0 (L ++ [(k, 0)]) := by
      refine ents_eq (by simp [ents_len]) fun j p hj => ?_
      by_cases hjl : j < L.length
      · rw [List.getElem?_append_left (by rw [ents_len]; exact hjl), ents_get]
        rw [List.getElem?_append_left hjl] at hj
        rw [hj]
        rfl
      · have hjn : j = L.length := by
          have := (List.getElem?_eq_some_iff.1 hj).1
          rw [List.length_append] at this
          simp at this
          omega
        subst hjn
        rw [List.getElem?_append_right (Nat.le_refl _), Nat.sub_self] at hj
        obtain rfl := Option.some.inj hj
        rw [List.getElem?_append_right (by rw [ents_len]; exact Nat.le_refl _), ents_len, Nat.sub_self]
        simp
    rw [e2, hpl]
    have e3 : getC L k = 0 := by unfold getC; rw [hp]
    rw [e3]
    simp [goInt]
  | some p =>
    have hpk := pos_hit hp
    have hpl := (List.getElem?_eq_some_iff.1 hp).1
    simp only [Option.map_some]
    have e : insC L k = L := if_pos hpl
    rw [e]
    have e2 : (entsOf kc 0 L).modify (0 + pos L k) (fun e => { e with key := .agg ⟨kc k⟩ }) = entsOf kc 0 L := by
      refine ents_eq (by rw [List.length_modify, ents_len]) fun j q hj => ?_
      rw [List.getElem?_modify, ents_get, hj]
      by_cases hjp : 0 + pos L k = j
      · rw [Nat.zero_add] at hjp
        subst hjp
        rw [hp] at hj
        obtain rfl := Option.some.inj hj
        simp [hpk]
      · rw [Nat.zero_add] at hjp
        simp [hjp]
    rw [e2]
    have e3 : getC L k = p.2 := by unfold getC; rw [hp]
    rw [e3]
    simp [goInt]
theorem ents_born (n : Nat) : ∀ (i : Nat) (L : List (α × Nat)), n < L.length → (entsOf kc i L).findIdx? (fun e => (e.born : Int) == ((i + n : Nat) : Int)) = some n := by
  induction n with
  | zero =>
    intro i L h
    cases L with
    | nil => cases h
    | cons p r => simp [entsOf, List.findIdx?_cons]
  | succ n ih =>
    intro i L h
    cases L with
    | nil => cases h
    | cons p r =>
      have := ih (i + 1) r (by simpa using h)
      rw [show i + 1 + n = i + (n + 1) from by omega] at this
      rw [entsOf, List.findIdx?_cons]
      have hne : (((i : Nat) : Int) == ((i + (n + 1) : Nat) : Int)) = false := by simp; omega
      simp only [hne]
      rw [this]
      rfl
theorem store_C {id n v : Nat} {L : List (α × Nat)} {k : α} (hg : s.get id = some (mapC kc L)) (hn : L[n]?.map (·.1) = some k) : entryStoreV s (.map (some id)) (.int .i64 (n : Int)) (.int .i64 (v : Int)) = some (s.set id (mapC kc (L.set n (k, v)))) := by
  cases hp : L[n]? with
  | none => rw [hp] at hn; cases hn
  | some p =>
    rw [hp] at hn
    have hpk : p.1 = k := Option.some.inj hn
    have hl := (List.getElem?_eq_some_iff.1 hp).1
    unfold entryStoreV
    simp only
    rw [hg]
    unfold mapC
    simp only
    have hb := ents_born (kc := kc) n 0 L hl
    rw [Nat.zero_add] at hb
    rw [hb]
    simp only
    have e2 : (entsOf kc 0 L).modify n (fun e => { e with val := .int .i64 (v : Int) }) = entsOf kc 0 (L.set n (k, v)) := by
      refine ents_eq (by rw [List.length_modify, ents_len, List.length_set]) fun j q hj => ?_
      rw [List.getElem?_modify, ents_get]
      rw [List.getElem?_set] at hj
      by_cases hjp : n = j
      · subst hjp
        rw [if_pos rfl, if_pos hl] at hj
        obtain rfl := Option.some.inj hj
        rw [hp]
        simp [hpk]
      · rw [if_neg hjp] at hj
        rw [hj]
        simp [hjp]
    rw [e2, List.length_set]
theorem look_C {t : TypeId} {kt : Nat} (ht : mcTy C t kt = true) (hk : ∀ x y : α, keyEq (.agg ⟨kc x⟩) (.agg ⟨kc y⟩) = some (decide (x = y))) {k : α} (ho : keyOk C kt (.agg ⟨kc k⟩) = true) {id : Nat} {L : List (α × Nat)} (hg : s.get id = some (mapC kc L)) :
    lookupV C s t (.map (some id)) (.agg ⟨kc k⟩) false = some (.int .i64 (getC L k : Nat)) := by
  obtain ⟨et, _, _, _, _, _, _, _, _, _, h1, h2⟩ := mc_ty ht
  unfold lookupV mapOf
  rw [h1]
  simp only
  rw [hg]
  unfold mapC
  simp only
  rw [if_pos ho, findK_pos hk k L 0 0]
  cases hp : L[pos L k]? with
  | none =>
    simp only [Option.map_none, h2]
    have e3 : getC L k = 0 := by unfold getC; rw [hp]
    rw [e3]
    rfl
  | some p =>
    simp only [Option.map_some]
    have e3 : getC L k = p.2 := by unfold getC; rw [hp]
    rw [e3]
    rfl
/-! ### counting -/
theorem pos_ins {L : List (α × Nat)} {k : α} : (insC L k)[pos L k]?.map (·.1) = some k := by
  unfold insC
  by_cases h : pos L k < L.length
  · rw [if_pos h]
    cases hp : L[pos L k]? with
    | none => have := List.getElem?_eq_none_iff.1 hp; omega
    | some p => rw [Option.map_some, pos_hit hp]
  · rw [if_neg h]
    have : pos L k = L.length := by have := pos_le L k; omega
    rw [this, List.getElem?_append_right (Nat.le_refl _), Nat.sub_self]
    rfl
/-- how often a key was counted -/
theorem getC_nil {k : α} : getC ([] : List (α × Nat)) k = 0 := rfl
theorem getC_cons {p : α × Nat} {r : List (α × Nat)} {k : α} : getC (p :: r) k = if p.1 = k then p.2 else getC r k := by
  unfold getC
  rw [pos_cons]
  by_cases h : p.1 = k
  · rw [if_pos h, if_pos h]; rfl
  · rw [if_neg h, if_neg h]; rfl
theorem bump_nil {k : α} : bump ([] : List (α × Nat)) k = [(k, 1)] := rfl
theorem bump_cons {p : α × Nat} {r : List (α × Nat)} {k : α} : bump (p :: r) k = if p.1 = k then (k, p.2 + 1) :: r else p :: bump r k := by
  unfold bump insC
  rw [getC_cons, pos_cons]
  by_cases h : p.1 = k
  · rw [if_pos h, if_pos h, if_pos h, if_pos (by simp)]; rfl
  · rw [if_neg h, if_neg h, if_neg h]
    by_cases hp : pos r k < r.length
    · rw [if_pos hp, if_pos (by simpa using hp)]; rfl
    · rw [if_neg hp, if_neg (by simpa using hp)]; rfl
theorem getC_bump : ∀ (L : List (α × Nat)) (k k2 : α), getC (bump L k) k2 = getC L k2 + if k = k2 then 1 else 0
  | [], k, k2 => by
    rw [bump_nil, getC_cons, getC_nil]
    by_cases h : k = k2 <;> simp [h]
  | p :: r, k, k2 => by
    rw [bump_cons]
    by_cases h : p.1 = k
    · rw [if_pos h, getC_cons, getC_cons]
      by_cases h2 : k = k2
      · simp [h2, h.trans h2]
      · have h3 : ¬ p.1 = k2 := fun e => h2 (h.symm.trans e)
        simp [h2, h3]
    · rw [if_neg h, getC_cons, getC_cons, getC_bump r k k2]
      by_cases h2 : p.1 = k2
      · have : ¬ k = k2 := fun e => h (h2.trans e.symm)
        simp [h2, this]
      · simp [h2]
def countC (l : List α) : List (α × Nat) := l.foldl bump []
theorem count_get (l : List α) : ∀ (L : List (α × Nat)) (k : α), getC (l.foldl bump L) k = getC L k + l.count k := by
  induction l with
  | nil => intro L k; rfl
  | cons x l ih =>
    intro L k
    rw [List.foldl_cons, ih, getC_bump, List.count_cons]
    by_cases h : x = k
    · simp [h]; omega
    · simp [h]
theorem countC_get (l : List α) (k : α) : getC (countC l) k = l.count k := by
  unfold countC
  rw [count_get, getC_nil, Nat.zero_add]
theorem countC_snoc (l : List α) (k : α) : countC (l ++ [k]) = bump (countC l) k := by
  unfold countC
  rw [List.foldl_append]
  rfl
theorem getC_ins (L : List (α × Nat)) (k : α) : getC (insC L k) k = getC L k := by
  unfold insC
  by_cases h : pos L k < L.length
  · rw [if_pos h]
  · rw [if_neg h]
    have e : pos L k = L.length := by have := pos_le L k; omega
    have e1 : getC L k = 0 := by unfold getC; rw [List.getElem?_eq_none (by omega)]
    rw [e1]
    have : ∀ M : List (α × Nat), (∀ p ∈ M, ¬ p.1 = k) → getC (M ++ [(k, 0)]) k = 0 := by
      intro M
      induction M with
      | nil => intro _; show getC [(k, 0)] k = 0; rw [getC_cons, if_pos rfl]
      | cons p M ih =>
        intro hM
        rw [List.cons_append, getC_cons, if_neg (hM p (.head _))]
        exact ih fun q hq => hM q (.tail _ hq)
    refine this L fun p hp hk => h ?_
    unfold pos
    exact List.findIdx_lt_length_of_exists ⟨p, hp, by simpa using hk⟩
theorem look_any {t : TypeId} {kt : Nat} (ht : mcTy C t kt = true) (hk : ∀ x y : α, keyEq (.agg ⟨kc x⟩) (.agg ⟨kc y⟩) = some (decide (x = y))) {k : α} (ho : keyOk C kt (.agg ⟨kc k⟩) = true) {id : Nat} {L : List (α × Nat)} {ev : Operand → Value} {X : St} {o : Op} (a b : Operand) (h1 : o = .lookup t a b false) (h2 : ev a = .map (some id)) (h3 : ev b = .agg ⟨kc k⟩) (hg : X.get id = some (mapC kc (insC L k))) :
    ∃ s'', evalOp C ev X o = some (.int .i64 (getC L k : Nat), s'') := by
  subst h1
  refine ⟨X, ?_⟩
  show (lookupV C X t (ev a) (ev b) false).map (fun v => (v, X)) = _
  rw [h2, h3, look_C ht hk ho hg, getC_ins]
  rfl
theorem mapC_sub {R : Nat → Option Nat → Nat → Prop} (hc : ∀ x, clo.cloL (kc x) = true) : ∀ (i : Nat) (L : List (α × Nat)), EntsS R (entsOf kc i L) (entsOf kc i L)
  | _, [] => .nil
  | i, p :: r => .cons (sub_clo rfl) (mapC_sub hc (i + 1) r)
theorem mapC_self {R : Nat → Option Nat → Nat → Prop} (hc : ∀ x, clo.cloL (kc x) = true) {L : List (α × Nat)} : OSub R (mapC kc L) (mapC kc L) := .map (mapC_sub hc 0 L)
end
end Go.Ai