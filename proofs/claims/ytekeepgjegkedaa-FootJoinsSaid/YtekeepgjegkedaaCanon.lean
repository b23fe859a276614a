/- Rows of keys that rise, of spans that are apart, are settled by what they hold. -/
import Derived.Test.YtekeepgjegkedaaCompact
set_option linter.unusedVariables false
set_option linter.unusedSimpArgs false
set_option linter.unnecessarySimpa false
namespace Go.Proofs.Ytekeepgjegkedaa
open Go.Ai
/-- keys that rise -/
abbrev ltk (a b : Key) : Prop := a.1 < b.1 ∨ a.1 = b.1 ∧ a.2 < b.2
def lek (a b : Key) : Prop := a.1 < b.1 ∨ a.1 = b.1 ∧ a.2 ≤ b.2
abbrev Up (l : List Key) : Prop := l.Pairwise ltk
/-- keys that rise are settled by which there are -/
theorem up_eq : ∀ {a b : List Key}, Up a → Up b → (∀ x, x ∈ a ↔ x ∈ b) → a = b
  | [], [], _, _, _ => rfl
  | [], y :: b, _, _, h => absurd ((h y).2 (.head _)) (by simp)
  | x :: a, [], _, _, h => absurd ((h x).1 (.head _)) (by simp)
  | x :: a, y :: b, ha, hb, h => by
    obtain ⟨ha1, ha2⟩ := List.pairwise_cons.1 ha
    obtain ⟨hb1, hb2⟩ := List.pairwise_cons.1 hb
    have e : x = y := by
      rcases List.mem_cons.1 ((h x).1 (.head _)) with e | e
      · exact e
      · rcases List.mem_cons.1 ((h y).2 (.head _)) with e2 | e2
        · exact e2.symm
        · have q1 := hb1 x e
          have q2 := ha1 y e2
          unfold ltk at q1 q2
          omega
    subst e
    refine congrArg _ (up_eq ha2 hb2 fun z => ⟨fun hz => ?_, fun hz => ?_⟩)
    · rcases List.mem_cons.1 ((h z).1 (.tail _ hz)) with e | e
      · subst e
        have q := ha1 z hz
        unfold ltk at q
        omega
      · exact e
    · rcases List.mem_cons.1 ((h z).2 (.tail _ hz)) with e | e
      · subst e
        have q := hb1 z hz
        unfold ltk at q
        omega
      · exact e
theorem sorted_of {α : Type} {cf : α → α → Int} (h : Go.Sort.SWO (ltOf cf)) (l : List α) : (srt cf l).Pairwise fun x y => ltOf cf y x = false := by
  have q := List.pairwise_mergeSort (le := fun x y => !ltOf cf y x) (fun a b c h1 h2 => by
    simp only [Bool.not_eq_true'] at h1 h2 ⊢
    exact h.ntrans _ _ _ h2 h1) (fun a b => by
    cases e : ltOf cf b a with
    | false => simp
    | true =>
      cases e2 : ltOf cf a b with
      | false => simp
      | true => have := h.trans _ _ _ e e2; rw [h.irrefl] at this; cases this) l
  exact q.imp fun {a b} h => by simpa using h
theorem srtK_le (l : List Key) : (srt cmpK l).Pairwise lek := (sorted_of swoK l).imp fun {a b} h => by
  rw [ltK] at h
  have := of_decide_eq_false h
  unfold lek
  omega
theorem dd_mem : ∀ {l : List Key} {x : Key}, x ∈ dd l ↔ x ∈ l
  | [], _ => Iff.rfl
  | [_], _ => Iff.rfl
  | a :: b :: r, x => by
    have ih := dd_mem (l := b :: r) (x := x)
    by_cases e : a = b
    · rw [show dd (a :: b :: r) = dd (b :: r) from if_pos e, ih, ← e]
      simp only [List.mem_cons]
      exact ⟨.inr, fun h => h.elim .inl id⟩
    · rw [show dd (a :: b :: r) = a :: dd (b :: r) from if_neg e, List.mem_cons, ih, ← List.mem_cons]
theorem dd_up : ∀ {l : List Key}, l.Pairwise lek → Up (dd l)
  | [], _ => .nil
  | [_], _ => List.pairwise_singleton _ _
  | a :: b :: r, h => by
    obtain ⟨h1, h2⟩ := List.pairwise_cons.1 h
    have ih := dd_up h2
    by_cases e : a = b
    · rw [show dd (a :: b :: r) = dd (b :: r) from if_pos e]; exact ih
    · rw [show dd (a :: b :: r) = a :: dd (b :: r) from if_neg e]
      refine List.pairwise_cons.2 ⟨fun z hz => ?_, ih⟩
      have q1 := h1 b (.head _)
      have q : ltk a b := by
        unfold lek at q1
        unfold ltk
        have : a.1 = b.1 → a.2 ≠ b.2 := fun e1 e2 => e (Prod.ext e1 e2)
        omega
      rcases List.mem_cons.1 (dd_mem.1 hz) with e2 | e2
      · rw [e2]; exact q
      · have q3 := (List.pairwise_cons.1 h2).1 z e2
        unfold lek at q3
        unfold ltk at q ⊢
        omega
def kj (l : List Key) : List Key := dd (srt cmpK l)
theorem kj_mem {l : List Key} {x : Key} : x ∈ kj l ↔ x ∈ l := dd_mem.trans (srt_perm l).mem_iff
theorem kj_up (l : List Key) : Up (kj l) := dd_up (srtK_le l)
theorem kj_len (l : List Key) : (kj l).length ≤ l.length := Nat.le_trans (dd_le _) (Nat.le_of_eq (srt_len l))
theorem kj_is {a b : List Key} (hb : Up b) (h : ∀ x, x ∈ a ↔ x ∈ b) : kj a = b := up_eq (kj_up a) hb fun x => kj_mem.trans (h x)

/-- spans in order, with a gap between them -/
def gap (a b : Span) : Prop := a.1 < b.1 ∨ a.1 = b.1 ∧ a.2.2 + 1 < b.2.1
def Can (l : List Span) : Prop := l.Pairwise gap ∧ ∀ x ∈ l, x.2.1 ≤ x.2.2
def pt (x : Span) (t k : Int) : Prop := x.1 = t ∧ x.2.1 ≤ k ∧ k ≤ x.2.2
def hasP (l : List Span) (t k : Int) : Prop := ∃ x ∈ l, pt x t k
theorem hasP_nil {t k : Int} : ¬ hasP [] t k := fun ⟨_, h, _⟩ => by cases h
theorem hasP_cons {x : Span} {l : List Span} {t k : Int} : hasP (x :: l) t k ↔ pt x t k ∨ hasP l t k := by simp [hasP]
theorem hasP_app {a b : List Span} {t k : Int} : hasP (a ++ b) t k ↔ hasP a t k ∨ hasP b t k := by
  simp only [hasP, List.mem_append]
  exact ⟨fun ⟨x, h, p⟩ => h.elim (fun h => .inl ⟨x, h, p⟩) fun h => .inr ⟨x, h, p⟩, fun h => h.elim (fun ⟨x, h, p⟩ => ⟨x, .inl h, p⟩) fun ⟨x, h, p⟩ => ⟨x, .inr h, p⟩⟩
theorem Can.tail {x : Span} {l : List Span} (h : Can (x :: l)) : Can l := ⟨(List.pairwise_cons.1 h.1).2, fun y hy => h.2 y (.tail _ hy)⟩
/-- the first point -/
theorem Can.low {x : Span} {l : List Span} (h : Can (x :: l)) {t k : Int} (hp : hasP (x :: l) t k) : x.1 < t ∨ x.1 = t ∧ x.2.1 ≤ k := by
  have hx := h.2 x (.head _)
  rcases hasP_cons.1 hp with p | ⟨z, hz, p⟩
  · unfold pt at p; omega
  · have g := (List.pairwise_cons.1 h.1).1 z hz
    unfold gap at g
    unfold pt at p
    omega
theorem Can.head {x : Span} {l : List Span} (h : Can (x :: l)) : hasP (x :: l) x.1 x.2.1 := hasP_cons.2 (.inl ⟨rfl, Int.le_refl _, h.2 x (.head _)⟩)
/-- no point right behind the first span -/
theorem Can.stop {x : Span} {l : List Span} (h : Can (x :: l)) {k : Int} (hk : x.2.2 < k) (hk2 : k ≤ x.2.2 + 1) : ¬ hasP (x :: l) x.1 k := by
  intro hp
  rcases hasP_cons.1 hp with p | ⟨z, hz, p⟩
  · unfold pt at p; omega
  · have g := (List.pairwise_cons.1 h.1).1 z hz
    unfold gap at g
    unfold pt at p
    omega
theorem Can.rest {x : Span} {l : List Span} (h : Can (x :: l)) {t k : Int} : hasP l t k ↔ hasP (x :: l) t k ∧ ¬ pt x t k := by
  refine ⟨fun hl => ⟨hasP_cons.2 (.inr hl), fun p => ?_⟩, fun ⟨h1, h2⟩ => (hasP_cons.1 h1).resolve_left h2⟩
  obtain ⟨z, hz, q⟩ := hl
  have g := (List.pairwise_cons.1 h.1).1 z hz
  unfold gap at g
  unfold pt at p q
  omega
theorem can_eq : ∀ {a b : List Span}, Can a → Can b → (∀ t k, hasP a t k ↔ hasP b t k) → a = b
  | [], [], _, _, _ => rfl
  | [], y :: b, _, hb, h => absurd ((h _ _).2 hb.head) hasP_nil
  | x :: a, [], ha, _, h => absurd ((h _ _).1 ha.head) hasP_nil
  | x :: a, y :: b, ha, hb, h => by
    have q1 := hb.low ((h _ _).1 ha.head)
    have q2 := ha.low ((h _ _).2 hb.head)
    have hx := ha.2 x (.head _)
    have hy := hb.2 y (.head _)
    have e : x = y := by
      refine Prod.ext (by omega) (Prod.ext (by omega) ?_)
      by_cases c1 : x.2.2 < y.2.2
      · refine absurd ((h x.1 (x.2.2 + 1)).2 (hasP_cons.2 (.inl ?_))) (ha.stop (by omega) (by omega))
        unfold pt
        omega
      · by_cases c2 : y.2.2 < x.2.2
        · refine absurd ((h y.1 (y.2.2 + 1)).1 (hasP_cons.2 (.inl ?_))) (hb.stop (by omega) (by omega))
          unfold pt
          omega
        · omega
    subst e
    exact congrArg _ (can_eq ha.tail hb.tail fun t k => by rw [ha.rest, hb.rest, h])
theorem wrapS {n : Int} (h : in64 n) (h2 : n < 9223372036854775807) : IntKind.wrap .i64 (n + 1) = n + 1 := wrap64 (by unfold in64 at h; omega)
/-- spans are apart, by the program -/
abbrev apS (y x : Span) : Prop := ¬ y.1 = x.1 ∨ y.2.2 < 9223372036854775806 ∧ IntKind.wrap .i64 (y.2.2 + 1) < x.2.1
/-- one span more -/
def spStep (o : List Span) (x : Span) : List Span :=
  if x.2.1 > x.2.2 then o else match o[o.length - 1]? with
    | none => o ++ [x]
    | some y => if apS y x then o ++ [x] else o.set (o.length - 1) (y.1, y.2.1, max y.2.2 x.2.2)
def spF (l : List Span) : List Span := l.foldl spStep []
def sj (l : List Span) : List Span := spF (srt cmpS l)
theorem spStep_e {o : List Span} {x : Span} (h : x.2.1 > x.2.2) : spStep o x = o := if_pos h
theorem spStep_0 {o : List Span} {x : Span} (h : ¬ x.2.1 > x.2.2) (h0 : o.length = 0) : spStep o x = o ++ [x] := by
  obtain rfl := List.eq_nil_of_length_eq_zero h0
  exact if_neg h
theorem spStep_a {o : List Span} {x y : Span} (h : ¬ x.2.1 > x.2.2) (hy : o[o.length - 1]? = some y) (ha : apS y x) : spStep o x = o ++ [x] := by
  unfold spStep
  rw [if_neg h, hy]
  exact if_pos ha
theorem spStep_m {o : List Span} {x y : Span} (h : ¬ x.2.1 > x.2.2) (hy : o[o.length - 1]? = some y) (ha : ¬ apS y x) : spStep o x = o.set (o.length - 1) (y.1, y.2.1, max y.2.2 x.2.2) := by
  unfold spStep
  rw [if_neg h, hy]
  exact if_neg ha
theorem spF_succ {l : List Span} {i : Nat} {x : Span} (h : l[i]? = some x) : spF (l.take (i + 1)) = spStep (spF (l.take i)) x := by
  unfold spF
  rw [List.take_add_one, h, List.foldl_append]
  rfl
theorem spStep_len {o : List Span} {x : Span} : (spStep o x).length ≤ o.length + 1 := by
  unfold spStep
  split
  · omega
  · split
    · simp
    · split <;> simp
theorem spF_len : ∀ (l o : List Span), (l.foldl spStep o).length ≤ o.length + l.length
  | [], o => Nat.le_refl _
  | x :: l, o => by
    have := spF_len l (spStep o x)
    have := spStep_len (o := o) (x := x)
    simp only [List.foldl_cons, List.length_cons] at *
    omega
theorem sj_len (l : List Span) : (sj l).length ≤ l.length := by
  have := spF_len (srt cmpS l) []
  rw [srt_len] at this
  simpa [sj, spF] using this
abbrev okN (x : Span) : Prop := in64 x.2.1 ∧ in64 x.2.2
theorem apS_iff {y x : Span} (hy : okN y) (hx : okN x) (h1 : x.2.1 ≤ x.2.2) : apS y x ↔ ¬ y.1 = x.1 ∨ y.2.2 + 1 < x.2.1 := by
  unfold apS
  by_cases c : y.2.2 < 9223372036854775807
  · rw [wrapS hy.2 c]
    have := hx.2
    unfold in64 at this
    omega
  · have := hx.2
    unfold in64 at this
    omega
def leS (y x : Span) : Prop := y.1 < x.1 ∨ y.1 = x.1 ∧ y.2.1 ≤ x.2.1
/-- what one span more does -/
theorem step_can {o : List Span} {x : Span} (ho : Can o) (hx : okN x) (hon : ∀ y ∈ o, okN y) (hl : ∀ y ∈ o, leS y x) :
    Can (spStep o x) ∧ (∀ y ∈ spStep o x, okN y) ∧ (∀ y ∈ spStep o x, leS y x ∨ y = x) ∧ (∀ t k, hasP (spStep o x) t k ↔ hasP o t k ∨ pt x t k) := by
  by_cases h : x.2.1 > x.2.2
  · rw [spStep_e h]
    refine ⟨ho, hon, fun y hy => .inl (hl y hy), fun t k => ⟨.inl, fun q => q.elim id fun p => ?_⟩⟩
    unfold pt at p
    omega
  · rcases List.eq_nil_or_concat o with rfl | ⟨o1, y, e⟩
    · rw [spStep_0 h rfl]
      refine ⟨⟨List.pairwise_singleton _ _, fun z hz => ?_⟩, fun z hz => ?_, fun z hz => ?_, fun t k => by simp [hasP]⟩
      · obtain rfl := List.mem_singleton.1 hz; omega
      · obtain rfl := List.mem_singleton.1 hz; exact hx
      · exact .inr (List.mem_singleton.1 hz)
    · rw [List.concat_eq_append] at e
      subst e
      have hlast : (o1 ++ [y])[(o1 ++ [y]).length - 1]? = some y := by simp
      obtain ⟨hp1, hp2, hp3⟩ := List.pairwise_append.1 ho.1
      have hy : y ∈ o1 ++ [y] := List.mem_append_right _ (.head _)
      have gy := ho.2 y hy
      have ny := hon y hy
      have ly := hl y hy
      have g1 : ∀ z ∈ o1, gap z y := fun z hz => hp3 z hz y (.head _)
      by_cases ha : apS y x
      · rw [spStep_a h hlast ha]
        have ha2 := (apS_iff ny hx (by omega)).1 ha
        unfold leS at ly
        refine ⟨⟨List.pairwise_append.2 ⟨ho.1, List.pairwise_singleton _ _, fun z hz w hw => ?_⟩, fun z hz => ?_⟩, fun z hz => ?_, fun z hz => ?_, fun t k => by rw [hasP_app]; simp [hasP]⟩
        · obtain rfl := List.mem_singleton.1 hw
          rcases List.mem_append.1 hz with hz | hz
          · have := g1 z hz
            unfold gap at this ⊢
            omega
          · obtain rfl := List.mem_singleton.1 hz
            unfold gap
            omega
        · rcases List.mem_append.1 hz with hz | hz
          · exact ho.2 z hz
          · obtain rfl := List.mem_singleton.1 hz; omega
        · rcases List.mem_append.1 hz with hz | hz
          · exact hon z hz
          · obtain rfl := List.mem_singleton.1 hz; exact hx
        · rcases List.mem_append.1 hz with hz | hz
          · exact .inl (hl z hz)
          · exact .inr (List.mem_singleton.1 hz)
      · rw [spStep_m h hlast ha]
        have ha2 : ¬ (¬ y.1 = x.1 ∨ y.2.2 + 1 < x.2.1) := fun q => ha ((apS_iff ny hx (by omega)).2 q)
        have e : (o1 ++ [y]).set ((o1 ++ [y]).length - 1) (y.1, y.2.1, max y.2.2 x.2.2) = o1 ++ [(y.1, y.2.1, max y.2.2 x.2.2)] := by
          rw [List.set_append_right _ _ (by simp)]
          simp
        rw [e]
        unfold leS at ly
        have mm : (y.2.2 ≤ x.2.2 ∧ max y.2.2 x.2.2 = x.2.2) ∨ (x.2.2 < y.2.2 ∧ max y.2.2 x.2.2 = y.2.2) := by omega
        refine ⟨⟨List.pairwise_append.2 ⟨hp1, List.pairwise_singleton _ _, fun z hz w hw => ?_⟩, fun z hz => ?_⟩, fun z hz => ?_, fun z hz => ?_, fun t k => ?_⟩
        · obtain rfl := List.mem_singleton.1 hw
          have := g1 z hz
          unfold gap at this ⊢
          exact this
        · rcases List.mem_append.1 hz with hz | hz
          · exact ho.2 z (List.mem_append_left _ hz)
          · obtain rfl := List.mem_singleton.1 hz
            show y.2.1 ≤ max y.2.2 x.2.2
            omega
        · rcases List.mem_append.1 hz with hz | hz
          · exact hon z (List.mem_append_left _ hz)
          · obtain rfl := List.mem_singleton.1 hz
            refine ⟨ny.1, ?_⟩
            show in64 (max y.2.2 x.2.2)
            rcases mm with ⟨_, e⟩ | ⟨_, e⟩ <;> rw [e]
            · exact hx.2
            · exact ny.2
        · rcases List.mem_append.1 hz with hz | hz
          · exact .inl (hl z (List.mem_append_left _ hz))
          · obtain rfl := List.mem_singleton.1 hz
            refine .inl ?_
            unfold leS
            exact ly
        · have e2 : pt (y.1, y.2.1, max y.2.2 x.2.2) t k ↔ pt y t k ∨ pt x t k := by
            have e3 : pt (y.1, y.2.1, max y.2.2 x.2.2) t k ↔ y.1 = t ∧ y.2.1 ≤ k ∧ k ≤ max y.2.2 x.2.2 := Iff.rfl
            rw [e3]
            unfold pt
            rcases mm with ⟨c1, e1⟩ | ⟨c1, e1⟩ <;> rw [e1] <;> omega
          rw [hasP_app, hasP_app, hasP_cons, hasP_cons, e2]
          simp only [hasP_nil, or_false, or_assoc]
theorem spF_can : ∀ {l o : List Span}, Can o → (∀ y ∈ o, okN y) → (∀ x ∈ l, okN x) → l.Pairwise leS → (∀ y ∈ o, ∀ x ∈ l, leS y x) →
    Can (l.foldl spStep o) ∧ (∀ y ∈ l.foldl spStep o, okN y) ∧ ∀ t k, hasP (l.foldl spStep o) t k ↔ hasP o t k ∨ hasP l t k
  | [], o, ho, hn, _, _, _ => ⟨ho, hn, fun t k => ⟨.inl, fun h => h.elim id fun q => absurd q hasP_nil⟩⟩
  | x :: l, o, ho, hn, hl, hs, hb => by
    obtain ⟨q1, q2, q3, q4⟩ := step_can ho (hl x (.head _)) hn fun y hy => hb y hy x (.head _)
    obtain ⟨p1, p2⟩ := List.pairwise_cons.1 hs
    obtain ⟨r1, r2, r3⟩ := spF_can q1 q2 (fun z hz => hl z (.tail _ hz)) p2 fun y hy z hz => by
      rcases q3 y hy with q | q
      · have := p1 z hz
        unfold leS at this q ⊢
        omega
      · rw [q]; exact p1 z hz
    exact ⟨r1, r2, fun t k => by rw [List.foldl_cons, r3, q4, hasP_cons, or_assoc]⟩
theorem srtS_le (l : List Span) : (srt cmpS l).Pairwise leS := (sorted_of swoS l).imp fun {a b} h => by
  rw [ltS] at h
  have := of_decide_eq_false h
  unfold leS
  omega
theorem hasP_perm {a b : List Span} (h : a.Perm b) {t k : Int} : hasP a t k ↔ hasP b t k :=
  ⟨fun ⟨x, hx, p⟩ => ⟨x, h.mem_iff.1 hx, p⟩, fun ⟨x, hx, p⟩ => ⟨x, h.mem_iff.2 hx, p⟩⟩
theorem sj_can {l : List Span} (h : ∀ x ∈ l, okN x) : Can (sj l) ∧ (∀ y ∈ sj l, okN y) ∧ ∀ t k, hasP (sj l) t k ↔ hasP l t k := by
  obtain ⟨q1, q2, q3⟩ := spF_can (l := srt cmpS l) (o := []) ⟨.nil, fun _ h => by cases h⟩ (fun _ h => by cases h) (fun x hx => h x ((srt_perm l).mem_iff.1 hx)) (srtS_le l) fun _ h => by cases h
  exact ⟨q1, q2, fun t k => (q3 t k).trans ⟨fun q => (q.resolve_left hasP_nil |> (hasP_perm (srt_perm l)).1), fun q => .inr ((hasP_perm (srt_perm l)).2 q)⟩⟩
theorem sj_is {a b : List Span} (ha : ∀ x ∈ a, okN x) (hb : Can b) (h : ∀ t k, hasP a t k ↔ hasP b t k) : sj a = b :=
  can_eq (sj_can ha).1 hb fun t k => ((sj_can ha).2.2 t k).trans (h t k)
end Go.Proofs.Ytekeepgjegkedaa