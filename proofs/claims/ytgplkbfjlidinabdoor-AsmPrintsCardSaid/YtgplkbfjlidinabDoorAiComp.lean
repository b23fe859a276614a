/- The interpreter: what holds of it. -/
import Derived.Test.YtgplkbfjlidinabDoorAiCon
import Derived.Test.YtgplkbfjlidinabDoorKit
set_option linter.unusedVariables false
set_option linter.unusedSimpArgs false
set_option linter.unnecessarySimpa false
/-
  Parts of rows that are written, cleared and handed back.
-/
namespace Go.Ai
def ssL (id sz o n tot : Nat) : Value := .slice (some ⟨id, o * sz, some (tot * sz)⟩) n sz
section
variable {α : Type} {f : α → List Value} {l : List α} {sz : Nat} {C : Cfg} {s : St}
theorem idx_rowI {t : TypeId} (ht : slTy C t sz = true) {id n i : Nat} {j : Int} {k : IntKind} (hj : j = (i : Int)) (hi : i < n) : indexAddrV C t (slL id sz n) (.int k j) = some (.pointer (some ⟨id, i * sz, some (n * sz)⟩)) := hj ▸ idx_rowL ht hi
theorem cut_hi_row {t : TypeId} (ht : slTy C t sz = true) {id n m : Nat} {k : IntKind} (h : m ≤ n) : sliceV C t (slL id sz n) none (some (.int k m)) none = some (ssL id sz 0 m n) := by
 unfold slTy at ht;split at ht
 ·rename_i elem _ _ _ _ _ hty;split at ht
  ·rename_i et het;have := Nat.eq_of_beq_eq_true ht;unfold sliceV slL;rw [hty];simp only [bnd_hi h, het];rw [if_pos this];unfold Addr.plus ssL;rw [Nat.zero_add];rfl
  ·cases ht
 ·cases ht
theorem fs_ss {k id mv m tot : Nat} (hz : 0 < sz) (hf : ∀ x, (f x).length = sz) (hc : ∀ x, clo.cloL (f x) = true) (ho : ∀ x, (f x).all one = true) (hk : k ≤ id) (hg : s.get id = some (rowM f mv l)) (hn : tot = l.length) (hm : mv ≤ tot * sz) (hb : m ≤ tot) : FS k s (ssL id sz 0 m tot) (inlL f sz (l.take m)) := by
  subst hn;have hlen : (l.take m).length = m := Z1j
  have hle := Nat.mul_le_mul_right sz hb;have h1 : flatL f l = flatL f (l.take m) ++ flatL f (l.drop m) := by rw [← flatL_append, List.take_append_drop]
  have h2 : (flatL f (l.take m)).length = m * sz := by rw [flatL_len hf, hlen]
  have key : FS k s (.slice (some ⟨id, 0 * sz, some (l.length * sz)⟩) m sz) (inl m sz (flatL f (l.take m))) := by
    refine .row hk hg hm (by rw [Nat.zero_mul]; omega) hz ?_ (flatL_clo hc) (flatL_one ho);rw [Nat.zero_mul, List.drop_zero, h1, ← h2, List.take_left];have : ∀ q : List Value, clo.cloL q = true → FSL k s q q := by
      intro q;induction q with
      | nil => exact fun _ => .nil
      | cons v q ih =>
        intro h;simp only [clo.cloL, Bool.and_eq_true] at h;exact .cons (.same (sub_clo h.1)) (ih h.2)
    exact this _ (flatL_clo hc)
  have : inlL f sz (l.take m) = inl m sz (flatL f (l.take m)) := by unfold inlL; rw [hlen]
  rw [this];exact key
end
end Go.Ai