/- The interpreter: what holds of it. -/
import Derived.Test.YtekeepgjegkedaaAiCon
set_option linter.unusedVariables false
set_option linter.unusedSimpArgs false
set_option linter.unnecessarySimpa false
/-
  Parts of rows that are written, cleared and handed back.
-/
namespace Go.Ai
/-- a part of a row -/
def ssL (id sz o n tot : Nat) : Value := .slice (some ⟨id, o * sz, some (tot * sz)⟩) n sz
section
variable {α : Type} {f : α → List Value} {l : List α} {sz : Nat} {C : Cfg} {s : St}
theorem load_rowM {t : TypeId} (ht : aggTy C t sz = true) (hf : ∀ x, (f x).length = sz) {id i mv n : Nat} {x : α} (hg : s.get id = some (rowM f mv l)) (hn : n = l.length) (hm : mv ≤ n * sz) (hi : l[i]? = some x) : loadV C s t (.pointer (some ⟨id, i * sz, some (n * sz)⟩)) = some (.agg (f x).toArray) := by
  subst hn
  have hl := (List.getElem?_eq_some_iff.1 hi).1
  have hm2 := Nat.mul_le_mul_right sz (show i + 1 ≤ l.length from hl)
  rw [Nat.succ_mul] at hm2
  unfold aggTy at ht
  split at ht
  · rename_i ty hty
    rw [Bool.and_eq_true] at ht
    have e1 := Nat.eq_of_beq_eq_true ht.2
    unfold loadV
    rw [hty]
    simp only [ht.1, if_true, St.cellsAt, hg, rowM]
    rw [e1, if_pos ⟨hm, by rw [flatL_len hf]; exact Nat.le_refl _, by omega⟩, flatL_at hf hi]
    rfl
  · cases ht
theorem load_rowM1 {t : TypeId} {o : Nat} (ht : oneTy C t = true) (hf : ∀ x, (f x).length = sz) {id i mv n : Nat} {x : α} {v : Value} (hg : s.get id = some (rowM f mv l)) (hn : n = l.length) (hm : mv ≤ n * sz) (hi : l[i]? = some x) (hv : (f x)[o]? = some v) : loadV C s t (.pointer (some ⟨id, i * sz + o, some (n * sz)⟩)) = some v := by
  subst hn
  have hl := (List.getElem?_eq_some_iff.1 hi).1
  have ho : o < sz := by have := (List.getElem?_eq_some_iff.1 hv).1; rwa [hf] at this
  have hm2 := Nat.mul_le_mul_right sz (show i + 1 ≤ l.length from hl)
  rw [Nat.succ_mul] at hm2
  have hlen := flatL_len (l := l) hf
  have h1 : ((flatL f l).drop (i * sz + o)).take 1 = [v] := by
    rw [flatL_sub hf hi (by omega)]
    rw [List.drop_eq_getElem_cons (by rw [hf]; exact ho)]
    rw [List.getElem?_eq_getElem (by rw [hf]; exact ho)] at hv
    rw [Option.some.inj hv]
    rfl
  unfold oneTy at ht
  split at ht
  · rename_i ty hty
    have ht : TypeDesc.agg ty.desc = false := by simpa using ht
    unfold loadV
    rw [hty]
    simp only [ht, Bool.false_eq_true, if_false, St.cellsAt, hg, rowM]
    rw [if_pos ⟨hm, by rw [hlen]; exact Nat.le_refl _, by omega⟩, h1]
  · cases ht
/-- one cell of an element is written -/
theorem store_rowP {t : TypeId} {o : Nat} (ht : oneSz C t = true) (hf : ∀ x, (f x).length = sz) (ho : ∀ x, (f x).all one = true) {id i mv n : Nat} {x x' : α} {v : Value} (hg : s.get id = some (rowM f mv l)) (hn : n = l.length) (hm : mv ≤ n * sz) (hi : l[i]? = some x) (hb : o < sz) (hx : f x' = (f x).set o v) (hv : v.cells = #[v]) (h1 : one v = true) :
    storeV C s t (.pointer (some ⟨id, i * sz + o, some (n * sz)⟩)) v = some (s.set id (rowM f (n * sz) (l.set i x'))) := by
  subst hn
  have hl := (List.getElem?_eq_some_iff.1 hi).1
  have hm2 := Nat.mul_le_mul_right sz (show i + 1 ≤ l.length from hl)
  rw [Nat.succ_mul] at hm2
  have hlen := flatL_len (l := l) hf
  unfold oneSz at ht
  split at ht
  · rename_i ty hty
    have e1 := Nat.eq_of_beq_eq_true ht
    unfold storeV
    rw [hty]
    have hs : v.cells.size = ty.size := by rw [e1, hv]; rfl
    refine (if_pos hs).trans ?_
    rw [hv]
    show s.putCells _ [v] = _
    unfold St.putCells
    simp only [hg, rowM]
    rw [if_pos ⟨hm, hlen.symm, by simp; omega, by simp [h1]⟩, ← flatL_set hf hl, hx]
    have key : splice (flatL f l) (i * sz + o) [v] = splice (flatL f l) (i * sz) ((f x).set o v) := by
      apply List.ext_getElem?
      intro j
      have q1 : i * sz + o + [v].length ≤ (flatL f l).length := by simp; omega
      have q2 : i * sz + ((f x).set o v).length ≤ (flatL f l).length := by rw [List.length_set, hf]; omega
      rw [splice_get _ _ _ q1, splice_get _ _ _ q2]
      have hset : ((f x).set o v).length = sz := by rw [List.length_set, hf]
      by_cases h3 : i * sz + o ≤ j ∧ j < i * sz + o + [v].length
      · have : j = i * sz + o := by simp at h3; omega
        subst this
        rw [if_pos h3, if_pos (by rw [hset]; omega)]
        simp [List.getElem?_set, hf, hb]
      · rw [if_neg h3]
        by_cases h4 : i * sz ≤ j ∧ j < i * sz + ((f x).set o v).length
        · rw [if_pos h4]
          rw [hset] at h4
          have h5 : o ≠ j - i * sz := by simp at h3; omega
          rw [List.getElem?_set_ne h5]
          have := flatL_sub (o := j - i * sz) (w := 1) hf hi (by omega)
          have := congrArg (fun z => z[0]?) this
          simpa [List.getElem?_take, List.getElem?_drop, show i * sz + (j - i * sz) = j by omega] using this
        · rw [if_neg h4]
    rw [key]
  · cases ht
theorem idx_ss {t : TypeId} (ht : slTy C t sz = true) {id o n h i : Nat} {k : IntKind} (hi : i < n) : indexAddrV C t (.slice (some ⟨id, o * sz, some h⟩) n sz) (.int k i) = some (.pointer (some ⟨id, (o + i) * sz, some h⟩)) := by
  unfold slTy at ht
  split at ht
  · rename_i elem _ _ _ _ _ hty
    split at ht
    · rename_i et het
      have := Nat.eq_of_beq_eq_true ht
      unfold indexAddrV
      rw [hty]
      simp only [het]
      rw [if_pos ⟨this, by omega, by omega⟩]
      unfold Addr.plus
      rw [Nat.add_mul]
      rfl
    · cases ht
  · cases ht
theorem idx_ssE {t : TypeId} (ht : slTy C t sz = true) {id o n h i m : Nat} {k : IntKind} (hi : i < n) (hm : o + i = m) : indexAddrV C t (.slice (some ⟨id, o * sz, some h⟩) n sz) (.int k i) = some (.pointer (some ⟨id, m * sz, some h⟩)) := hm ▸ idx_ss ht hi
theorem idx_rowI {t : TypeId} (ht : slTy C t sz = true) {id n i : Nat} {j : Int} {k : IntKind} (hj : j = (i : Int)) (hi : i < n) : indexAddrV C t (slL id sz n) (.int k j) = some (.pointer (some ⟨id, i * sz, some (n * sz)⟩)) := hj ▸ idx_rowL ht hi
theorem cut_lo_row {t : TypeId} (ht : slTy C t sz = true) {id n m : Nat} {k : IntKind} (h : m ≤ n) : sliceV C t (slL id sz n) (some (.int k m)) none none = some (ssL id sz m (n - m) n) := by
  unfold slTy at ht
  split at ht
  · rename_i elem _ _ _ _ _ hty
    split at ht
    · rename_i et het
      have := Nat.eq_of_beq_eq_true ht
      unfold sliceV slL
      rw [hty]
      simp only [bnd_lo h, het]
      rw [if_pos this]
      unfold Addr.plus ssL
      rw [Nat.zero_add]
    · cases ht
  · cases ht
theorem cut_hi_row {t : TypeId} (ht : slTy C t sz = true) {id n m : Nat} {k : IntKind} (h : m ≤ n) : sliceV C t (slL id sz n) none (some (.int k m)) none = some (ssL id sz 0 m n) := by
  unfold slTy at ht
  split at ht
  · rename_i elem _ _ _ _ _ hty
    split at ht
    · rename_i et het
      have := Nat.eq_of_beq_eq_true ht
      unfold sliceV slL
      rw [hty]
      simp only [bnd_hi h, het]
      rw [if_pos this]
      unfold Addr.plus ssL
      rw [Nat.zero_add]
      rfl
    · cases ht
  · cases ht
/-- the cells of a slice type's zero element -/
def clrZ (C : Cfg) (t : TypeId) (sz : Nat) : Option (List Value) :=
  match C.ty t with
  | some { desc := .slice elem, .. } => match C.ty elem with
    | some { size := k, zero := some z, .. } => if k = sz ∧ sz = z.cells.size ∧ 0 < sz then some z.cells.toList else none
    | _ => none
  | _ => none
theorem zeros_flat (z : α) : ∀ n, zeros (f z) n = flatL f (List.replicate n z)
  | 0 => rfl
  | n + 1 => by
    show f z ++ zeros (f z) n = _
    rw [zeros_flat z n]; rfl
theorem clear_ss {t : TypeId} {z : α} (ht : clrZ C t sz = some (f z)) (hf : ∀ x, (f x).length = sz) (ho : ∀ x, (f x).all one = true) {id o n mv tot : Nat} (hg : s.get id = some (rowM f mv l)) (hn : tot = l.length) (hm : mv ≤ tot * sz) (hpos : 0 < n) (hb : o + n = tot) :
    builtinV C s .clear #[t] [ssL id sz o n tot] = some (.tuple #[], s.set id (rowM f (tot * sz) (l.take o ++ List.replicate n z))) := by
  show clearV C s t (ssL id sz o n tot) = _
  unfold clrZ at ht
  unfold clearV ssL
  split at ht
  · rename_i elem _ _ _ _ _ hty
    rw [hty]
    dsimp only
    rw [if_neg (by omega)]
    split at ht
    · rename_i zz _ _ het
      split at ht
      · rename_i hq
        have hz := Option.some.inj ht
        rw [het]
        dsimp only
        rw [if_pos hq, hz, zeros_flat]
        have hl1 : (flatL f (List.replicate n z)).length = n * sz := by rw [flatL_len hf, List.length_replicate]
        have hl2 : (flatL f l).length = tot * sz := by rw [flatL_len hf, hn]
        have hbs : o * sz + n * sz = tot * sz := by rw [← Nat.add_mul, hb]
        have hput : s.putCells ⟨id, o * sz, some (tot * sz)⟩ (flatL f (List.replicate n z)) = some (s.set id (rowM f (tot * sz) (l.take o ++ List.replicate n z))) := by
          unfold St.putCells
          simp only [hg, rowM]
          rw [if_pos ⟨hm, hl2.symm, by rw [hl1]; omega, flatL_one ho⟩]
          have : splice (flatL f l) (o * sz) (flatL f (List.replicate n z)) = flatL f (l.take o ++ List.replicate n z) := by
            unfold splice
            rw [hl1, hbs, ← hl2, List.drop_length, List.append_nil, flatL_append]
            congr 1
            have h1 : flatL f l = flatL f (l.take o) ++ flatL f (l.drop o) := by rw [← flatL_append, List.take_append_drop]
            have h2 : (flatL f (l.take o)).length = o * sz := by rw [flatL_len hf, List.length_take]; congr 1; omega
            rw [h1, ← h2, List.take_left]
          rw [this]
        rw [hput]; rfl
      · cases ht
    · cases ht
  · cases ht
theorem append_moreM {t : TypeId} {bytes : Nat} (ht : appTy C t sz bytes = true) {id len n hi mv : Nat} {y : Value} {cs news : List Value} (hg : s.get id = some (.arr cs mv false)) (hm : mv ≤ hi) (hhi : hi = cs.length) (hcs : len * sz = cs.length) (hl : lenV C y = some n) (hf : firstV C s sz n y = some news)
    (ho : news.all one = true) (hb : (len + n) * bytes ≤ 140737488355328) (hn : n = 0 → news = []) :
    appendV C s t (.slice (some ⟨id, 0, some hi⟩) len sz) y = some (.slice (some ⟨id, 0, some (hi + n * sz)⟩) (len + n) sz, s.set id (.arr (cs ++ news) mv false)) := by
  subst hhi
  unfold appTy at ht
  split at ht
  · rename_i elem _ _ _ _ _ hty
    split at ht
    · rename_i sz' b' z _ _ het
      simp only [Bool.and_eq_true, Nat.blt_eq] at ht
      obtain ⟨⟨⟨⟨e1, e2⟩, h1⟩, h2⟩, h3⟩ := ht
      have e1 := Nat.eq_of_beq_eq_true e1
      have e2 := Nat.eq_of_beq_eq_true e2
      have h1 := Nat.eq_of_beq_eq_true h1
      subst e1; subst e2
      unfold appendV
      rw [hty]
      simp only [het]
      rw [if_pos ⟨h1, h2, h3⟩, hl]
      simp only
      rw [hf]
      simp only [if_true]
      by_cases hn0 : n = 0
      · subst hn0
        rw [hn rfl, List.append_nil, St.set_same hg]
        simp
      · rw [if_neg hn0, if_pos ⟨hb, ho⟩, hg]
        simp only
        rw [if_pos ⟨hm, Nat.le_refl _, by omega⟩, if_pos (by omega)]
    · cases ht
  · cases ht
theorem app_rowM (H : TokC C) {t : TypeId} {bytes : Nat} (ht : appTy C t sz bytes = true) (hf : ∀ x, (f x).length = sz) (ho : ∀ x, (f x).all one = true) {id mv : Nat} {y : Value} {l2 : List α} (hg : s.get id = some (rowM f mv l)) (hm : mv ≤ l.length * sz) (hl : lenV C y = some l2.length) (hn : firstV C s sz l2.length y = some (flatL f l2))
    (hb : (l.length + l2.length) * bytes ≤ 140737488355328) : appendV C s t (slL id sz l.length) y = some (slL id sz (l ++ l2).length, s.set id (rowM f mv (l ++ l2))) := by
  have := append_moreM (C := C) (s := s) ht hg hm (flatL_len hf).symm (flatL_len hf).symm hl hn (flatL_one ho) hb (fun h => by rw [List.eq_nil_of_length_eq_zero h]; rfl)
  unfold slL rowM
  rw [this, flatL_append, List.length_append, Nat.add_mul]
theorem max_int (x y : Int) : (if y > x then y else x) = max x y := by
  rw [Int.max_def]; split <;> split <;> omega
/-- a written row, frozen -/
theorem fs_slM {k id mv n : Nat} (hz : 0 < sz) (hf : ∀ x, (f x).length = sz) (hc : ∀ x, clo.cloL (f x) = true) (ho : ∀ x, (f x).all one = true) (hk : k ≤ id) (hg : s.get id = some (rowM f mv l)) (hn : n = l.length) (hm : mv ≤ n * sz) : FS k s (slL id sz n) (inlL f sz l) := by
  subst hn
  have hl := flatL_len (l := l) hf
  refine .row hk hg hm (by omega) hz ?_ (flatL_clo hc) (flatL_one ho)
  rw [List.drop_zero, List.take_of_length_le (by omega)]
  have : ∀ q : List Value, clo.cloL q = true → FSL k s q q := by
    intro q
    induction q with
    | nil => exact fun _ => .nil
    | cons v q ih =>
      intro h
      simp only [clo.cloL, Bool.and_eq_true] at h
      exact .cons (.same (sub_clo h.1)) (ih h.2)
  exact this _ (flatL_clo hc)
theorem rowm_iff (hf : ∀ x, (f x).length = sz) (hi : ∀ l l' : List α, rowL f l = rowL f l' ↔ l = l') {m n : Nat} {l l' : List α} : rowM f m l = rowM f n l' ↔ m = n ∧ l = l' := by
  unfold rowM
  unfold rowL at hi
  simp only [AObj.arr.injEq, and_true] at hi ⊢
  rw [hi, and_comm]
/-- the front of a row, frozen -/
theorem fs_ss {k id mv m tot : Nat} (hz : 0 < sz) (hf : ∀ x, (f x).length = sz) (hc : ∀ x, clo.cloL (f x) = true) (ho : ∀ x, (f x).all one = true) (hk : k ≤ id) (hg : s.get id = some (rowM f mv l)) (hn : tot = l.length) (hm : mv ≤ tot * sz) (hb : m ≤ tot) : FS k s (ssL id sz 0 m tot) (inlL f sz (l.take m)) := by
  subst hn
  have hlen : (l.take m).length = m := by rw [List.length_take]; omega
  have hle := Nat.mul_le_mul_right sz hb
  have h1 : flatL f l = flatL f (l.take m) ++ flatL f (l.drop m) := by rw [← flatL_append, List.take_append_drop]
  have h2 : (flatL f (l.take m)).length = m * sz := by rw [flatL_len hf, hlen]
  have key : FS k s (.slice (some ⟨id, 0 * sz, some (l.length * sz)⟩) m sz) (inl m sz (flatL f (l.take m))) := by
    refine .row hk hg hm (by rw [Nat.zero_mul]; omega) hz ?_ (flatL_clo hc) (flatL_one ho)
    rw [Nat.zero_mul, List.drop_zero, h1, ← h2, List.take_left]
    have : ∀ q : List Value, clo.cloL q = true → FSL k s q q := by
      intro q
      induction q with
      | nil => exact fun _ => .nil
      | cons v q ih =>
        intro h
        simp only [clo.cloL, Bool.and_eq_true] at h
        exact .cons (.same (sub_clo h.1)) (ih h.2)
    exact this _ (flatL_clo hc)
  have : inlL f sz (l.take m) = inl m sz (flatL f (l.take m)) := by unfold inlL; rw [hlen]
  rw [this]
  exact key
end
end Go.Ai