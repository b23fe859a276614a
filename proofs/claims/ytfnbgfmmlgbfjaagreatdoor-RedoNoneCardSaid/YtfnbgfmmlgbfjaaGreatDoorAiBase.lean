/-
  The interpreter's own plain lemmas: tries, frames, memory.
-/
import Derived.Test.YtfnbgfmmlgbfjaaGreatDoorAiCore
namespace Go.Ai

namespace T
variable {α : Type}
theorem get_setF (x : α) : ∀ (f : Nat) (t : T α) (k : Nat), k < f → ∀ j, (setF f t k x).get j = if j = k then some x else t.get j := by
  intro f
  induction f with
  | zero => intro t k h; omega
  | succ f ih =>
    intro t k hk j
    have hl : ∀ j, t.get j = bif Nat.beq j 0 then t.top else bif Nat.beq (j % 2) 1 then t.left.get (j / 2) else t.right.get (j / 2 - 1) := by
      intro j
      cases t with
      | e => cases h0 : Nat.beq j 0 <;> cases h1 : Nat.beq (j % 2) 1 <;> simp [get, top, left, right]
      | n l v r => rfl
    unfold setF
    by_cases k0 : k = 0
    · subst k0
      simp only [Nat.beq, cond_true]
      by_cases j0 : j = 0
      · subst j0; rfl
      · rw [hl j]
        have : Nat.beq j 0 = false := by cases h : Nat.beq j 0 with
          | false => rfl
          | true => exact absurd (Nat.eq_of_beq_eq_true h) j0
        simp [get, this, j0]
    · have kb : Nat.beq k 0 = false := by cases h : Nat.beq k 0 with
        | false => rfl
        | true => exact absurd (Nat.eq_of_beq_eq_true h) k0
      rw [kb]
      simp only [cond_false]
      by_cases k1 : k % 2 = 1
      · have kb1 : Nat.beq (k % 2) 1 = true := by rw [k1]; rfl
        rw [kb1]
        simp only [cond_true]
        rw [hl j]
        by_cases j0 : j = 0
        · subst j0
          have : (0 : Nat) ≠ k := fun h => k0 h.symm
          simp [get, this, Nat.beq]
        · have jb : Nat.beq j 0 = false := by cases h : Nat.beq j 0 with
            | false => rfl
            | true => exact absurd (Nat.eq_of_beq_eq_true h) j0
          by_cases j1 : j % 2 = 1
          · have jb1 : Nat.beq (j % 2) 1 = true := by rw [j1]; rfl
            simp only [get, jb, jb1, cond_false, cond_true]
            rw [ih _ _ (by omega)]
            by_cases e : j = k
            · subst e; simp
            · rw [if_neg e, if_neg (by omega)]
          · have jb1 : Nat.beq (j % 2) 1 = false := by cases h : Nat.beq (j % 2) 1 with
              | false => rfl
              | true => exact absurd (Nat.eq_of_beq_eq_true h) j1
            have e : j ≠ k := by intro e; subst e; exact j1 k1
            simp [get, jb, jb1, e]
      · have kb1 : Nat.beq (k % 2) 1 = false := by cases h : Nat.beq (k % 2) 1 with
          | false => rfl
          | true => exact absurd (Nat.eq_of_beq_eq_true h) k1
        rw [kb1]
        simp only [cond_false]
        rw [hl j]
        by_cases j0 : j = 0
        · subst j0
          have : (0 : Nat) ≠ k := fun h => k0 h.symm
          simp [get, this, Nat.beq]
        · have jb : Nat.beq j 0 = false := by cases h : Nat.beq j 0 with
            | false => rfl
            | true => exact absurd (Nat.eq_of_beq_eq_true h) j0
          by_cases j1 : j % 2 = 1
          · have jb1 : Nat.beq (j % 2) 1 = true := by rw [j1]; rfl
            have e : j ≠ k := by intro e; subst e; exact k1 j1
            simp [get, jb, jb1, e]
          · have jb1 : Nat.beq (j % 2) 1 = false := by cases h : Nat.beq (j % 2) 1 with
              | false => rfl
              | true => exact absurd (Nat.eq_of_beq_eq_true h) j1
            simp only [get, jb, jb1, cond_false]
            rw [ih _ _ (by omega)]
            by_cases e : j = k
            · subst e; simp
            · rw [if_neg e, if_neg (by omega)]

theorem get_set (t : T α) (k : Nat) (x : α) (j : Nat) : (t.set k x).get j = if j = k then some x else t.get j := get_setF x (k + 1) t k (by omega) j
theorem get_e (j : Nat) : (T.e : T α).get j = none := rfl
theorem get_ofListFrom (l : List α) : ∀ (k : Nat) (t : T α) (j : Nat), (ofListFrom k l t).get j = if k ≤ j ∧ j < k + l.length then l[j - k]? else t.get j := by
  induction l with
  | nil => intro k t j; rw [if_neg (by simp only [List.length_nil]; omega)]; rfl
  | cons x r ih =>
    intro k t j
    simp only [ofListFrom]
    rw [ih, get_set]
    by_cases h1 : k + 1 ≤ j ∧ j < k + 1 + r.length
    · rw [if_pos h1, if_pos (by simp; omega)]
      obtain ⟨m, rfl⟩ : ∃ m, j = k + 1 + m := ⟨j - (k + 1), by omega⟩
      rw [show k + 1 + m - (k + 1) = m from by omega, show k + 1 + m - k = m + 1 from by omega]
      rfl
    · rw [if_neg h1]
      by_cases e : j = k
      · subst e; rw [if_pos rfl, if_pos (by simp)]; simp
      · rw [if_neg e, if_neg (by simp; omega)]
theorem get_ofList (l : List α) (j : Nat) : (ofList l).get j = l[j]? := by
  unfold ofList
  rw [get_ofListFrom]
  by_cases h : j < l.length
  · rw [if_pos (by omega)]; simp
  · rw [if_neg (by omega), get_e, List.getElem?_eq_none (by omega)]
end T

theorem Env.get_put (e : Env) (t : Nat) (v : Value) (j : Nat) : (e.put t v).get j = if j = t ∧ t < e.n then v else e.get j := by
  unfold Env.get Env.put
  simp only [T.get_set]
  by_cases h : j < e.n
  · have hb : Nat.blt j e.n = true := by simp [Nat.blt]; omega
    rw [hb]
    simp only [cond_true]
    by_cases ej : j = t
    · subst ej; simp [h]
    · simp [ej]
  · have hb : Nat.blt j e.n = false := by
      cases hh : Nat.blt j e.n with
      | false => rfl
      | true => simp [Nat.blt] at hh; omega
    rw [hb]
    simp only [cond_false]
    rw [if_neg (by omega)]
theorem Env.n_put (e : Env) (t : Nat) (v : Value) : (e.put t v).n = e.n := rfl
theorem Env.get_big (e : Env) (j : Nat) (h : e.n ≤ j) : e.get j = undef := by
  have hb : Nat.blt j e.n = false := by
    cases hh : Nat.blt j e.n with
    | false => rfl
    | true => simp [Nat.blt] at hh; omega
  unfold Env.get
  rw [hb]; rfl

theorem St.get_set (s : St) (i : Nat) (o : AObj) (j : Nat) : (s.set i o).get j = if j = i then some o else s.get j := T.get_set _ _ _ _
theorem St.get_new (s : St) (o : AObj) (j : Nat) : (s.new o).get j = if j = s.n then some o else s.get j := T.get_set _ _ _ _
theorem St.n_set (s : St) (i : Nat) (o : AObj) : (s.set i o).n = s.n := rfl
theorem St.n_new (s : St) (o : AObj) : (s.new o).n = s.n + 1 := rfl

theorem length_splice (cs : List Value) (off : Nat) (vs : List Value) (h : off + vs.length ≤ cs.length) : (splice cs off vs).length = cs.length := by
  simp [splice]; omega
theorem splice_get (cs : List Value) (off : Nat) (vs : List Value) (h : off + vs.length ≤ cs.length) (j : Nat) :
    (splice cs off vs)[j]? = if off ≤ j ∧ j < off + vs.length then vs[j - off]? else cs[j]? := by
  unfold splice
  by_cases h1 : j < off
  · rw [if_neg (by omega), List.append_assoc, List.getElem?_append_left (by simp; omega), List.getElem?_take_of_lt h1]
  · by_cases h2 : j < off + vs.length
    · rw [if_pos (by omega), List.getElem?_append_left (by simp; omega), List.getElem?_append_right (by simp; omega)]
      congr 1; simp; omega
    · rw [if_neg (by omega), List.getElem?_append_right (by simp; omega), List.getElem?_drop]
      congr 1; simp; omega

/-! ### what a run comes to -/
inductive M.Has {α : Type} : M α → α → Prop where
  | ret (a : α) : M.Has (.ret a) a
  | ask {n i : Nat} {k : Nat → M α} {a : α} (hi : i < n) (h : M.Has (k i) a) : M.Has (.ask n k) a

theorem M.All.has {α : Type} {Q : α → Prop} {m : M α} {a : α} (h : m.All Q) (ha : m.Has a) : Q a := by
  induction ha with
  | ret a => exact h
  | ask hi _ ih => exact ih (h.2 _ hi)
theorem M.All.some {α : Type} {Q : α → Prop} : ∀ {m : M α}, m.All Q → ∃ a, m.Has a
  | .ret a, _ => ⟨a, .ret a⟩
  | .fail, h => h.elim
  | .ask _ _, h => let ⟨a, ha⟩ := M.All.some (h.2 0 h.1); ⟨a, .ask h.1 ha⟩
theorem M.All.mono {α : Type} {Q Q' : α → Prop} (hq : ∀ a, Q a → Q' a) : ∀ {m : M α}, m.All Q → m.All Q'
  | .ret a, h => hq a h
  | .fail, h => h
  | .ask _ _, h => ⟨h.1, fun i hi => M.All.mono hq (h.2 i hi)⟩
theorem M.all_bind {α β : Type} {Q : β → Prop} {f : α → M β} : ∀ {m : M α}, (m.bind f).All Q ↔ m.All fun a => (f a).All Q
  | .ret a => Iff.rfl
  | .fail => Iff.rfl
  | .ask _ k => by
    simp only [M.bind, M.All]
    exact and_congr Iff.rfl (forall_congr' fun i => imp_congr Iff.rfl M.all_bind)
theorem M.Has.bind {α β : Type} {f : α → M β} {a : α} {b : β} {m : M α} (h : m.Has a) (hb : (f a).Has b) : (m.bind f).Has b := by
  induction h with
  | ret a => exact hb
  | ask hi _ ih => exact .ask hi (ih hb)

end Go.Ai
