/- Rows of keys that rise, of spans that are apart, are settled by what they hold. -/
import Derived.Test.YtfpkfcdeoiofiaaCompact
set_option linter.unusedVariables false
set_option linter.unusedSimpArgs false
set_option linter.unnecessarySimpa false
namespace Go.Proofs.Ytfpkfcdeoiofiaa
open Go.Ai
theorem dd_mem : ∀ {l : List Key} {x : Key}, x ∈ dd l ↔ x ∈ l
  | [], _ => Iff.rfl
  | [_], _ => Iff.rfl
  | a :: b :: r, x => by
    have ih := dd_mem (l := b :: r) (x := x)
    by_cases e : a = b
    · rw [show dd (a :: b :: r) = dd (b :: r) from if_pos e, ih, ← e]
      simp only [List.mem_cons]
      exact ⟨.inr, fun h => h.elim .inl id⟩
    · rw [show dd (a :: b :: r) = a :: dd (b :: r) from if_neg e, List.mem_cons, ih, ← List.mem_cons]
def kj (l : List Key) : List Key := dd (srt cmpK l)
theorem kj_mem {l : List Key} {x : Key} : x ∈ kj l ↔ x ∈ l := dd_mem.trans (srt_perm l).mem_iff
theorem kj_len (l : List Key) : (kj l).length ≤ l.length := Nat.le_trans (dd_le _) (Nat.le_of_eq (srt_len l))
/-- spans in order, with a gap between them -/
def gap (a b : Span) : Prop := a.1 < b.1 ∨ a.1 = b.1 ∧ a.2.2 + 1 < b.2.1
def Can (l : List Span) : Prop := l.Pairwise gap ∧ ∀ x ∈ l, x.2.1 ≤ x.2.2
def pt (x : Span) (t k : Int) : Prop := x.1 = t ∧ x.2.1 ≤ k ∧ k ≤ x.2.2
def hasP (l : List Span) (t k : Int) : Prop := ∃ x ∈ l, pt x t k
theorem hasP_cons {x : Span} {l : List Span} {t k : Int} : hasP (x :: l) t k ↔ pt x t k ∨ hasP l t k := by simp [hasP]
theorem Can.tail {x : Span} {l : List Span} (h : Can (x :: l)) : Can l := ⟨(List.pairwise_cons.1 h.1).2, fun y hy => h.2 y (.tail _ hy)⟩
/-- the first point -/
theorem Can.low {x : Span} {l : List Span} (h : Can (x :: l)) {t k : Int} (hp : hasP (x :: l) t k) : x.1 < t ∨ x.1 = t ∧ x.2.1 ≤ k := by
  have hx := h.2 x (.head _)
  rcases hasP_cons.1 hp with p | ⟨z, hz, p⟩
  · unfold pt at p; omega
  · have g := (List.pairwise_cons.1 h.1).1 z hz
    unfold gap at g
    unfold pt at p
    omega
theorem Can.head {x : Span} {l : List Span} (h : Can (x :: l)) : hasP (x :: l) x.1 x.2.1 := hasP_cons.2 (.inl ⟨rfl, Int.le_refl _, h.2 x (.head _)⟩)
theorem Can.rest {x : Span} {l : List Span} (h : Can (x :: l)) {t k : Int} : hasP l t k ↔ hasP (x :: l) t k ∧ ¬ pt x t k := by
  refine ⟨fun hl => ⟨hasP_cons.2 (.inr hl), fun p => ?_⟩, fun ⟨h1, h2⟩ => (hasP_cons.1 h1).resolve_left h2⟩
  obtain ⟨z, hz, q⟩ := hl
  have g := (List.pairwise_cons.1 h.1).1 z hz
  unfold gap at g
  unfold pt at p q
  omega
/-- spans are apart, by the program -/
abbrev apS (y x : Span) : Prop := ¬ y.1 = x.1 ∨ y.2.2 < 9223372036854775806 ∧ IntKind.wrap .i64 (y.2.2 + 1) < x.2.1
/-- one span more -/
def spStep (o : List Span) (x : Span) : List Span :=
  if x.2.1 > x.2.2 then o else match o[o.length - 1]? with
    | none => o ++ [x]
    | some y => if apS y x then o ++ [x] else o.set (o.length - 1) (y.1, y.2.1, max y.2.2 x.2.2)
def spF (l : List Span) : List Span := l.foldl spStep []
def sj (l : List Span) : List Span := spF (srt cmpS l)
theorem spStep_e {o : List Span} {x : Span} (h : x.2.1 > x.2.2) : spStep o x = o := if_pos h
theorem spStep_0 {o : List Span} {x : Span} (h : ¬ x.2.1 > x.2.2) (h0 : o.length = 0) : spStep o x = o ++ [x] := by
  obtain rfl := List.eq_nil_of_length_eq_zero h0
  exact if_neg h
theorem spStep_a {o : List Span} {x y : Span} (h : ¬ x.2.1 > x.2.2) (hy : o[o.length - 1]? = some y) (ha : apS y x) : spStep o x = o ++ [x] := by
  unfold spStep
  rw [if_neg h, hy]
  exact if_pos ha
theorem spStep_m {o : List Span} {x y : Span} (h : ¬ x.2.1 > x.2.2) (hy : o[o.length - 1]? = some y) (ha : ¬ apS y x) : spStep o x = o.set (o.length - 1) (y.1, y.2.1, max y.2.2 x.2.2) := by
  unfold spStep
  rw [if_neg h, hy]
  exact if_neg ha
theorem spF_succ {l : List Span} {i : Nat} {x : Span} (h : l[i]? = some x) : spF (l.take (i + 1)) = spStep (spF (l.take i)) x := by
  unfold spF
  rw [List.take_add_one, h, List.foldl_append]
  rfl
theorem spStep_len {o : List Span} {x : Span} : (spStep o x).length ≤ o.length + 1 := by
  unfold spStep
  split
  · omega
  · split
    · simp
    · split <;> simp
theorem spF_len : ∀ (l o : List Span), (l.foldl spStep o).length ≤ o.length + l.length
  | [], o => Nat.le_refl _
  | x :: l, o => by
    have := spF_len l (spStep o x)
    have := spStep_len (o := o) (x := x)
    simp only [List.foldl_cons, List.length_cons] at *
    omega
theorem sj_len (l : List Span) : (sj l).length ≤ l.length := by
  have := spF_len (srt cmpS l) []
  rw [srt_len] at this
  simpa [sj, spF] using this
end Go.Proofs.Ytfpkfcdeoiofiaa