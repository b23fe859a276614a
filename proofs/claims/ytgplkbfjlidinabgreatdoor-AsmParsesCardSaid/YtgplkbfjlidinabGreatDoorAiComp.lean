/- The interpreter: what holds of it. -/
import Derived.Test.YtgplkbfjlidinabGreatDoorAiCon
import Derived.Test.YtgplkbfjlidinabGreatDoorKit
set_option linter.unusedVariables false
set_option linter.unusedSimpArgs false
set_option linter.unnecessarySimpa false
/-
  Parts of rows that are written, cleared and handed back.
-/
namespace Go.Ai
def ssL (id sz o n tot : Nat) : Value := .slice (some ⟨id, o * sz, some (tot * sz)⟩) n sz
section
variable {α : Type} {f : α → List Value} {l : List α} {sz : Nat} {C : Cfg} {s : St}
theorem load_rowM1 {t : TypeId} {o : Nat} (ht : oneTy C t = true) (hf : ∀ x, (f x).length = sz) {id i mv n : Nat} {x : α} {v : Value} (hg : s.get id = some (rowM f mv l)) (hn : n = l.length) (hm : mv ≤ n * sz) (hi : l[i]? = some x) (hv : (f x)[o]? = some v) : loadV C s t (.pointer (some ⟨id, i * sz + o, some (n * sz)⟩)) = some v := by
 subst hn;have hl := (List.getElem?_eq_some_iff.1 hi).1;have ho : o < sz := Z10
 have hm2 := Nat.mul_le_mul_right sz (show i + 1 ≤ l.length from hl);rw [Nat.succ_mul] at hm2;have hlen := flatL_len (l := l) hf;have h1 : ((flatL f l).drop (i * sz + o)).take 1 = [v] := by
  rw [flatL_sub hf hi Z4];rw [List.drop_eq_getElem_cons Z26];rw [List.getElem?_eq_getElem Z26] at hv;rw [Option.some.inj hv];rfl
 unfold oneTy at ht;split at ht
 ·rename_i ty hty;have ht : TypeDesc.agg ty.desc = false := by simpa using ht
  unfold loadV;rw [hty];simp only [ht, Bool.false_eq_true, if_false, St.cellsAt, hg, rowM];rw [if_pos ⟨hm, by rw [hlen]; exact Nat.le_refl _, Z4⟩, h1]
 ·cases ht
theorem idx_rowI {t : TypeId} (ht : slTy C t sz = true) {id n i : Nat} {j : Int} {k : IntKind} (hj : j = (i : Int)) (hi : i < n) : indexAddrV C t (slL id sz n) (.int k j) = some (.pointer (some ⟨id, i * sz, some (n * sz)⟩)) := hj ▸ idx_rowL ht hi
theorem cut_hi_row {t : TypeId} (ht : slTy C t sz = true) {id n m : Nat} {k : IntKind} (h : m ≤ n) : sliceV C t (slL id sz n) none (some (.int k m)) none = some (ssL id sz 0 m n) := by
 unfold slTy at ht;split at ht
 ·rename_i elem _ _ _ _ _ hty;split at ht
  ·rename_i et het;have := Nat.eq_of_beq_eq_true ht;unfold sliceV slL;rw [hty];simp only [bnd_hi h, het];rw [if_pos this];unfold Addr.plus ssL;rw [Nat.zero_add];rfl
  ·cases ht
 ·cases ht
theorem append_moreM {t : TypeId} {bytes : Nat} (ht : appTy C t sz bytes = true) {id len n hi mv : Nat} {y : Value} {cs news : List Value} (hg : s.get id = some (.arr cs mv false)) (hm : mv ≤ hi) (hhi : hi = cs.length) (hcs : len * sz = cs.length) (hl : lenV C y = some n) (hf : firstV C s sz n y = some news)
  (ho : news.all one = true) (hb : (len + n) * bytes ≤ 140737488355328) (hn : n = 0 → news = []) :
  appendV C s t (.slice (some ⟨id, 0, some hi⟩) len sz) y = some (.slice (some ⟨id, 0, some (hi + n * sz)⟩) (len + n) sz, s.set id (.arr (cs ++ news) mv false)) := by
 subst hhi;unfold appTy at ht;split at ht
 ·rename_i elem _ _ _ _ _ hty;split at ht
  ·rename_i sz' b' z _ _ het;simp only [Bool.and_eq_true, Nat.blt_eq] at ht;obtain ⟨⟨⟨⟨e1, e2⟩, h1⟩, h2⟩, h3⟩ := ht;have e1 := Nat.eq_of_beq_eq_true e1;have e2 := Nat.eq_of_beq_eq_true e2;have h1 := Nat.eq_of_beq_eq_true h1;subst e1; subst e2;unfold appendV;rw [hty];simp only [het];rw [if_pos ⟨h1, h2, h3⟩, hl];simp only;rw [hf];simp only [if_true];by_cases hn0 : n = 0
   ·subst hn0;rw [hn rfl, List.append_nil, St.set_same hg];simp
   ·rw [if_neg hn0, if_pos ⟨hb, ho⟩, hg];simp only;rw [if_pos ⟨hm, Nat.le_refl _, Z4⟩, if_pos Z4]
  ·cases ht
 ·cases ht
theorem app_rowM (H : TokC C) {t : TypeId} {bytes : Nat} (ht : appTy C t sz bytes = true) (hf : ∀ x, (f x).length = sz) (ho : ∀ x, (f x).all one = true) {id mv : Nat} {y : Value} {l2 : List α} (hg : s.get id = some (rowM f mv l)) (hm : mv ≤ l.length * sz) (hl : lenV C y = some l2.length) (hn : firstV C s sz l2.length y = some (flatL f l2))
  (hb : (l.length + l2.length) * bytes ≤ 140737488355328) : appendV C s t (slL id sz l.length) y = some (slL id sz (l ++ l2).length, s.set id (rowM f mv (l ++ l2))) := by
 have := append_moreM (C := C) (s := s) ht hg hm (flatL_len hf).symm (flatL_len hf).symm hl hn (flatL_one ho) hb (fun h => by rw [List.eq_nil_of_length_eq_zero h]; rfl);unfold slL rowM;rw [this, flatL_append, List.length_append, Nat.add_mul]
theorem fs_slM {k id mv n : Nat} (hz : 0 < sz) (hf : ∀ x, (f x).length = sz) (hc : ∀ x, clo.cloL (f x) = true) (ho : ∀ x, (f x).all one = true) (hk : k ≤ id) (hg : s.get id = some (rowM f mv l)) (hn : n = l.length) (hm : mv ≤ n * sz) : FS k s (slL id sz n) (inlL f sz l) := by
  subst hn;have hl := flatL_len (l := l) hf;refine .row hk hg hm Z4 hz ?_ (Z2o hc) (flatL_one ho);rw [List.drop_zero, List.take_of_length_le Z4];have : ∀ q : List Value, clo.cloL q = true → FSL k s q q := by
    intro q;induction q with
    | nil => exact fun _ => .nil
    | cons v q ih =>
      intro h;simp only [clo.cloL, Bool.and_eq_true] at h;exact .cons (.same (sub_clo h.1)) (ih h.2)
  exact this _ (Z2o hc)
theorem fs_ss {k id mv m tot : Nat} (hz : 0 < sz) (hf : ∀ x, (f x).length = sz) (hc : ∀ x, clo.cloL (f x) = true) (ho : ∀ x, (f x).all one = true) (hk : k ≤ id) (hg : s.get id = some (rowM f mv l)) (hn : tot = l.length) (hm : mv ≤ tot * sz) (hb : m ≤ tot) : FS k s (ssL id sz 0 m tot) (inlL f sz (l.take m)) := by
  subst hn;have hlen : (l.take m).length = m := Z1c
  have hle := Nat.mul_le_mul_right sz hb;have h1 : flatL f l = flatL f (l.take m) ++ flatL f (l.drop m) := by rw [← flatL_append, List.take_append_drop]
  have h2 : (flatL f (l.take m)).length = m * sz := by rw [flatL_len hf, hlen]
  have key : FS k s (.slice (some ⟨id, 0 * sz, some (l.length * sz)⟩) m sz) (inl m sz (flatL f (l.take m))) := by
    refine .row hk hg hm (by rw [Nat.zero_mul]; omega) hz ?_ (Z2o hc) (flatL_one ho);rw [Nat.zero_mul, List.drop_zero, h1, ← h2, List.take_left];have : ∀ q : List Value, clo.cloL q = true → FSL k s q q := by
      intro q;induction q with
      | nil => exact fun _ => .nil
      | cons v q ih =>
        intro h;simp only [clo.cloL, Bool.and_eq_true] at h;exact .cons (.same (sub_clo h.1)) (ih h.2)
    exact this _ (Z2o hc)
  have : inlL f sz (l.take m) = inl m sz (flatL f (l.take m)) := by unfold inlL; rw [hlen]
  rw [this];exact key
end
end Go.Ai