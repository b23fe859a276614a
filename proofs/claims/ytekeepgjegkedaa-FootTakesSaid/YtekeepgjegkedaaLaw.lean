/- The law. -/
import Derived.Test.YtekeepgjegkedaaLarge
import Derived.Test.YtekeepgjegkedaaAiCon
import Derived.Test.YtekeepgjegkedaaKit
set_option linter.unusedVariables false
set_option linter.unusedSimpArgs false
set_option linter.unnecessarySimpa false
namespace Go.Proofs.Ytekeepgjegkedaa
open Go.Ai
theorem cmp_or3 {a b c d e f : Int} : ¬ orL [cmpI a d, cmpI b e, cmpI c f] < 0 ↔ ¬ (a < d ∨ a = d ∧ (b < e ∨ b = e ∧ c < f)) := by
 simp only [orL, cmpI, List.find?_cons, List.find?_nil];repeat' split
 all_goals simp_all
 all_goals omega
theorem wrap1 {n : Int} (h : in64 n) (h2 : n < 9223372036854775807) : IntKind.wrap .i64 (n + 1) = n + 1 := wrap64 (by unfold in64 at h; omega)
theorem bad_eq {l : List Span} (hr : ∀ x ∈ l, in64 x.2.1 ∧ in64 x.2.2) {i : Nat} (h : ∀ j, j < i → ¬ badF l j) : badF l i ↔ badR l i := by
  cases hx : l[i]? with
  | none => constructor <;> (rintro ⟨x, h1, _⟩; rw [hx] at h1; cases h1)
  | some x =>
    by_cases h0 : 0 < i
    · have hi := (List.getElem?_eq_some_iff.1 hx).1
      obtain ⟨y, hy⟩ := get_ex (l := l) (i := i - 1) Z5;rw [badF_iff2 hx hy, badR_iff2 hx hy, cmp_or3];have hb := h (i - 1) Z5;rw [badF_iff hy] at hb;have rx := hr x (List.mem_of_getElem? hx);have ry := hr y (List.mem_of_getElem? hy);have e : y.2.2 < 9223372036854775807 → IntKind.wrap .i64 (y.2.2 + 1) = y.2.2 + 1 := wrap1 ry.2;have hl : ¬ y.2.1 > y.2.2 := fun q => hb (.inr (.inl q))
      unfold in64 at rx ry;omega
    · rw [badF_iff hx, badR_iff hx]
      constructor <;> (rintro (q | q | ⟨q, _⟩); exact .inl q; exact .inr (.inl q); omega)
theorem bads_eq {l : List Span} (hr : ∀ x ∈ l, in64 x.2.1 ∧ in64 x.2.2) : badFL l ↔ badRL l := by
  have key : ∀ i, (∃ j, j < i ∧ badF l j) ↔ (∃ j, j < i ∧ badR l j) := by
    intro i;induction i with
    | zero => exact ⟨fun ⟨_, h, _⟩ => absurd h (Nat.not_lt_zero _), fun ⟨_, h, _⟩ => absurd h (Nat.not_lt_zero _)⟩
    | succ i ih =>
      by_cases hb : ∃ j, j < i ∧ badF l j
      · obtain ⟨j, h1, h2⟩ := hb
        obtain ⟨k, h3, h4⟩ := ih.1 ⟨j, h1, h2⟩;exact ⟨fun _ => ⟨k, Z5, h4⟩, fun _ => ⟨j, Z5, h2⟩⟩
      · have e := bad_eq hr (i := i) fun j hj q => hb ⟨j, hj, q⟩
        have hb' : ¬ ∃ j, j < i ∧ badR l j := fun q => hb (ih.2 q)
        constructor
        · rintro ⟨j, h1, h2⟩
          by_cases hj : j = i
          · exact ⟨i, Z5, e.1 (hj ▸ h2)⟩
          · exact absurd ⟨j, Z5, h2⟩ hb
        · rintro ⟨j, h1, h2⟩
          by_cases hj : j = i
          · exact ⟨i, Z5, e.2 (hj ▸ h2)⟩
          · exact absurd ⟨j, Z5, h2⟩ hb'
  exact key l.length
theorem good_eq {rs : List Key} {ss : List Span} {ws : List Key} (hr : ∀ x ∈ ss, in64 x.2.1 ∧ in64 x.2.2) : goodP rs ss ws ↔ goodR rs ss ws := and_congr (not_congr (bads_eq hr)) Iff.rfl
end Go.Proofs.Ytekeepgjegkedaa