/- Feet are put together, by the document: the law. -/
import Derived.Test.YtekeepgjegkedaaJoin
set_option linter.unusedVariables false
set_option linter.unusedSimpArgs false
set_option linter.unnecessarySimpa false
namespace Go.Proofs.Ytekeepgjegkedaa
open Go.Ai
/-- one key more, by the document -/
def stepQ (k : Key) (p : List Key × Bool) (y : Key) : List Key × Bool := if p.2 = false ∧ ¬ ltk y k then (p.1 ++ [k], true) else p
def stepI (k : Key) (p : List Key × Bool) (y : Key) : List Key × Bool := if y.1 = k.1 ∧ y.2 = k.2 then stepQ k p y else ((stepQ k p y).1 ++ [y], (stepQ k p y).2)
theorem stepQ_1 {k y : Key} {o : List Key} (h : ¬ ltk y k) : stepQ k (o, false) y = (o ++ [k], true) := if_pos ⟨rfl, h⟩
theorem stepQ_2 {k y : Key} {o : List Key} (h : ltk y k) : stepQ k (o, false) y = (o, false) := if_neg fun q => q.2 h
theorem stepQ_3 {k y : Key} {o : List Key} : stepQ k (o, true) y = (o, true) := if_neg fun q => Bool.noConfusion q.1
def insS (k : Key) (l : List Key) : List Key × Bool := l.foldl (stepI k) ([], false)
def insE (k : Key) (p : List Key × Bool) : List Key := if p.2 = true then p.1 else p.1 ++ [k]
def insK (l : List Key) (k : Key) : List Key := insE k (insS k l)
theorem fold_succ {α β : Type} (f : β → α → β) {b : β} {l : List α} {i : Nat} {x : α} (h : l[i]? = some x) : (l.take (i + 1)).foldl f b = f ((l.take i).foldl f b) x := by
  rw [List.take_add_one, h, List.foldl_append]
  rfl
theorem insS_succ {k : Key} {l : List Key} {i : Nat} {x : Key} (h : l[i]? = some x) : insS k (l.take (i + 1)) = stepI k (insS k (l.take i)) x := fold_succ _ h
theorem stepI_1 {k y : Key} {o : List Key} (h : ¬ ltk y k) (e : ¬ (y.1 = k.1 ∧ y.2 = k.2)) : stepI k (o, false) y = (o ++ [k] ++ [y], true) := by
  unfold stepI
  rw [stepQ_1 h, if_neg e]
theorem stepI_2 {k y : Key} {o : List Key} (h : ¬ ltk y k) (e : y.1 = k.1 ∧ y.2 = k.2) : stepI k (o, false) y = (o ++ [k], true) := by
  unfold stepI
  rw [stepQ_1 h, if_pos e]
theorem stepI_3 {k y : Key} {o : List Key} (h : ltk y k) (e : ¬ (y.1 = k.1 ∧ y.2 = k.2)) : stepI k (o, false) y = (o ++ [y], false) := by
  unfold stepI
  rw [stepQ_2 h, if_neg e]
theorem stepI_4 {k y : Key} {o : List Key} (e : ¬ (y.1 = k.1 ∧ y.2 = k.2)) : stepI k (o, true) y = (o ++ [y], true) := by
  unfold stepI
  rw [stepQ_3, if_neg e]
theorem stepI_5 {k y : Key} {o : List Key} (e : y.1 = k.1 ∧ y.2 = k.2) : stepI k (o, true) y = (o, true) := by
  unfold stepI
  rw [stepQ_3, if_pos e]
def unK (k : Key) (l : List Key) : List Key := l.filter fun x => decide ¬ (x.1 = k.1 ∧ x.2 = k.2)
theorem unK_pos {k y : Key} {l : List Key} (e : ¬ (y.1 = k.1 ∧ y.2 = k.2)) : unK k (y :: l) = y :: unK k l := by
  unfold unK
  exact List.filter_cons_of_pos (decide_eq_true e)
theorem unK_neg {k y : Key} {l : List Key} (e : y.1 = k.1 ∧ y.2 = k.2) : unK k (y :: l) = unK k l := by
  unfold unK
  refine List.filter_cons_of_neg fun q => ?_
  exact (of_decide_eq_true q) e
def insR (k : Key) : List Key → List Key
  | [] => [k]
  | y :: l => if ltk y k then y :: insR k l else k :: unK k (y :: l)
theorem stepI_done {k : Key} : ∀ (l o : List Key), l.foldl (stepI k) (o, true) = (o ++ unK k l, true)
  | [], o => by simp [unK]
  | y :: l, o => by
    rw [List.foldl_cons]
    by_cases e : y.1 = k.1 ∧ y.2 = k.2
    · rw [stepI_5 e, stepI_done l]
      rw [unK_neg e]
    · rw [stepI_4 e, stepI_done l]
      rw [unK_pos e, List.append_assoc]
      rfl
theorem stepI_open {k : Key} : ∀ (l o : List Key), insE k (l.foldl (stepI k) (o, false)) = o ++ insR k l
  | [], o => rfl
  | y :: l, o => by
    rw [List.foldl_cons]
    by_cases h : ltk y k
    · have e : ¬ (y.1 = k.1 ∧ y.2 = k.2) := by unfold ltk at h; omega
      rw [stepI_3 h e, stepI_open l, insR, if_pos h, List.append_assoc]
      rfl
    · rw [insR, if_neg h]
      by_cases e : y.1 = k.1 ∧ y.2 = k.2
      · rw [stepI_2 h e, stepI_done l]
        rw [unK_neg e]
        show _ ++ _ = _
        rw [List.append_assoc]
        rfl
      · rw [stepI_1 h e, stepI_done l]
        rw [unK_pos e]
        show _ ++ _ = _
        rw [List.append_assoc, List.append_assoc]
        rfl
theorem insK_eq (l : List Key) (k : Key) : insK l k = insR k l := stepI_open l []
theorem unK_mem {k x : Key} {l : List Key} : x ∈ unK k l ↔ x ∈ l ∧ ¬ x = k := by
  unfold unK
  rw [List.mem_filter, decide_eq_true_iff, Prod.ext_iff]
theorem insR_mem {k x : Key} : ∀ {l : List Key}, x ∈ insR k l ↔ x = k ∨ x ∈ l
  | [] => by simp [insR]
  | y :: l => by
    unfold insR
    by_cases h : ltk y k
    · rw [if_pos h, List.mem_cons, insR_mem, List.mem_cons]
      exact ⟨fun q => q.elim (fun q => .inr (.inl q)) fun q => q.elim .inl fun q => .inr (.inr q), fun q => q.elim (fun q => .inr (.inl q)) fun q => q.elim .inl fun q => .inr (.inr q)⟩
    · rw [if_neg h, List.mem_cons, unK_mem]
      by_cases e : x = k
      · simp [e]
      · simp [e]
theorem insR_up {k : Key} : ∀ {l : List Key}, Up l → Up (insR k l)
  | [], _ => List.pairwise_singleton _ _
  | y :: l, hl => by
    obtain ⟨h1, h2⟩ := List.pairwise_cons.1 hl
    unfold insR
    by_cases h : ltk y k
    · rw [if_pos h]
      refine List.pairwise_cons.2 ⟨fun z hz => ?_, insR_up h2⟩
      rcases insR_mem.1 hz with rfl | hz
      · exact h
      · exact h1 z hz
    · rw [if_neg h]
      refine List.pairwise_cons.2 ⟨fun z hz => ?_, List.Pairwise.filter _ hl⟩
      obtain ⟨hz, e⟩ := unK_mem.1 hz
      have e2 : z.1 = k.1 → z.2 ≠ k.2 := fun e1 e2 => e (Prod.ext e1 e2)
      rcases List.mem_cons.1 hz with rfl | hz
      · unfold ltk at h ⊢
        omega
      · have := h1 z hz
        unfold ltk at h this ⊢
        omega
def insAll (l : List Key) : List Key := l.foldl insK []
theorem insF {l : List Key} : ∀ {o : List Key}, Up o → Up (l.foldl insK o) ∧ ∀ x, x ∈ l.foldl insK o ↔ x ∈ o ∨ x ∈ l := by
  induction l with
  | nil => exact fun h => ⟨h, fun x => ⟨.inl, fun q => q.elim id fun q => by cases q⟩⟩
  | cons y l ih =>
    intro o h
    obtain ⟨q1, q2⟩ := ih (o := insK o y) (by rw [insK_eq]; exact insR_up h)
    refine ⟨q1, fun x => ?_⟩
    rw [List.foldl_cons, q2, insK_eq, insR_mem, List.mem_cons]
    exact ⟨fun q => q.elim (fun q => q.elim (fun q => .inr (.inl q)) .inl) fun q => .inr (.inr q), fun q => q.elim (fun q => .inl (.inr q)) fun q => q.elim (fun q => .inl (.inl q)) .inr⟩
theorem insAll_kj (l : List Key) : insAll l = kj l := by
  obtain ⟨q1, q2⟩ := insF (l := l) (o := []) .nil
  exact (kj_is q1 fun x => ((q2 x).trans ⟨fun h => h.elim (fun h => by cases h) id, .inr⟩).symm).symm
theorem insAll_le (l : List Key) : (insAll l).length ≤ l.length := by rw [insAll_kj]; exact kj_len l
theorem insAll_snoc (l : List Key) (k : Key) : insAll (l ++ [k]) = insK (insAll l) k := by
  unfold insAll
  rw [List.foldl_append]
  rfl

/-- spans that have numbers in common or stand side by side, by the document -/
abbrev tchS (y x : Span) : Prop := y.1 = x.1 ∧ ¬ (y.2.2 < x.2.1 ∧ ¬ IntKind.wrap .i64 (y.2.2 + 1) = x.2.1) ∧ ¬ (x.2.2 < y.2.1 ∧ ¬ IntKind.wrap .i64 (x.2.2 + 1) = y.2.1)
theorem tch_iff {y x : Span} (hy : okN y) (hx : okN x) : tchS y x ↔ y.1 = x.1 ∧ x.2.1 ≤ y.2.2 + 1 ∧ y.2.1 ≤ x.2.2 + 1 := by
  have hy1 := hy.1
  have hy2 := hy.2
  have hx1 := hx.1
  have hx2 := hx.2
  have e1 : y.2.2 < 9223372036854775807 → IntKind.wrap .i64 (y.2.2 + 1) = y.2.2 + 1 := wrapS hy2
  have e2 : x.2.2 < 9223372036854775807 → IntKind.wrap .i64 (x.2.2 + 1) = x.2.2 + 1 := wrapS hx2
  unfold in64 at hy1 hy2 hx1 hx2
  unfold tchS
  omega
def mrg (y x : Span) : Span := (x.1, if y.2.1 < x.2.1 then y.2.1 else x.2.1, if y.2.2 > x.2.2 then y.2.2 else x.2.2)
def stepA (p : List Span × Span) (y : Span) : List Span × Span := if tchS y p.2 then (p.1, mrg y p.2) else (p.1 ++ [y], p.2)
def addA (x : Span) (l : List Span) : List Span × Span := l.foldl stepA ([], x)
theorem addA_succ {x : Span} {l : List Span} {i : Nat} {y : Span} (h : l[i]? = some y) : addA x (l.take (i + 1)) = stepA (addA x (l.take i)) y := fold_succ _ h
theorem stepA_n {o : List Span} {x y : Span} (h : ¬ tchS y x) : stepA (o, x) y = (o ++ [y], x) := if_neg h
theorem stepA_y {o : List Span} {x y : Span} (h : tchS y x) : stepA (o, x) y = (o, mrg y x) := if_pos h
abbrev abvS (y x : Span) : Prop := y.1 > x.1 ∨ y.1 = x.1 ∧ y.2.1 > x.2.1
def stepB (x : Span) (p : List Span × Bool) (y : Span) : List Span × Bool :=
  let q := if p.2 = false ∧ abvS y x then (p.1 ++ [x], true) else p
  (q.1 ++ [y], q.2)
def addB (x : Span) (l : List Span) : List Span × Bool := l.foldl (stepB x) ([], false)
theorem addB_succ {x : Span} {l : List Span} {i : Nat} {y : Span} (h : l[i]? = some y) : addB x (l.take (i + 1)) = stepB x (addB x (l.take i)) y := fold_succ _ h
theorem stepB_1 {x y : Span} {o : List Span} (h : abvS y x) : stepB x (o, false) y = (o ++ [x] ++ [y], true) := by
  unfold stepB
  rw [if_pos ⟨rfl, h⟩]
theorem stepB_2 {x y : Span} {o : List Span} (h : ¬ abvS y x) : stepB x (o, false) y = (o ++ [y], false) := by
  unfold stepB
  rw [if_neg fun q => h q.2]
theorem stepB_3 {x y : Span} {o : List Span} : stepB x (o, true) y = (o ++ [y], true) := by
  unfold stepB
  rw [if_neg fun q => by simp at q]
def addE (x : Span) (p : List Span × Bool) : List Span := if p.2 = true then p.1 else p.1 ++ [x]
def addK (l : List Span) (x : Span) : List Span := if x.2.1 > x.2.2 then l else addE (addA x l).2 (addB (addA x l).2 (addA x l).1)
def addR (x : Span) : List Span → List Span
  | [] => [x]
  | y :: l => if abvS y x then x :: y :: l else y :: addR x l
theorem stepB_done {x : Span} : ∀ (l o : List Span), l.foldl (stepB x) (o, true) = (o ++ l, true)
  | [], o => by simp
  | y :: l, o => by rw [List.foldl_cons, stepB_3, stepB_done l, List.append_assoc]; rfl
theorem stepB_open {x : Span} : ∀ (l o : List Span), addE x (l.foldl (stepB x) (o, false)) = o ++ addR x l
  | [], o => rfl
  | y :: l, o => by
    rw [List.foldl_cons]
    by_cases h : abvS y x
    · rw [stepB_1 h, stepB_done, addR, if_pos h]
      show _ ++ _ = _
      rw [List.append_assoc, List.append_assoc]
      rfl
    · rw [stepB_2 h, stepB_open l, addR, if_neg h, List.append_assoc]
      rfl
/-- what is apart from a span -/
def apt (z x : Span) : Prop := z.1 = x.1 → z.2.2 + 1 < x.2.1 ∨ x.2.2 + 1 < z.2.1
theorem addR_mem {x z : Span} : ∀ {l : List Span}, z ∈ addR x l ↔ z = x ∨ z ∈ l
  | [] => by simp [addR]
  | y :: l => by
    unfold addR
    by_cases h : abvS y x
    · rw [if_pos h, List.mem_cons]
    · rw [if_neg h, List.mem_cons, addR_mem, List.mem_cons]
      exact ⟨fun q => q.elim (fun q => .inr (.inl q)) fun q => q.elim .inl fun q => .inr (.inr q), fun q => q.elim (fun q => .inr (.inl q)) fun q => q.elim .inl fun q => .inr (.inr q)⟩
theorem addR_can {x : Span} (hx : x.2.1 ≤ x.2.2) : ∀ {l : List Span}, Can l → (∀ z ∈ l, apt z x) → Can (addR x l)
  | [], _, _ => ⟨List.pairwise_singleton _ _, fun z hz => by obtain rfl := List.mem_singleton.1 hz; exact hx⟩
  | y :: l, hl, ha => by
    obtain ⟨h1, h2⟩ := List.pairwise_cons.1 hl.1
    have hy := hl.2 y (.head _)
    have ay := ha y (.head _)
    unfold apt at ay
    unfold addR
    by_cases h : abvS y x
    · rw [if_pos h]
      unfold abvS at h
      refine ⟨List.pairwise_cons.2 ⟨fun z hz => ?_, hl.1⟩, fun z hz => ?_⟩
      · rcases List.mem_cons.1 hz with rfl | hz
        · unfold gap; omega
        · have := h1 z hz
          unfold gap at this ⊢
          omega
      · rcases List.mem_cons.1 hz with rfl | hz
        · exact hx
        · exact hl.2 z hz
    · rw [if_neg h]
      unfold abvS at h
      have ih := addR_can hx hl.tail fun z hz => ha z (.tail _ hz)
      refine ⟨List.pairwise_cons.2 ⟨fun z hz => ?_, ih.1⟩, fun z hz => ?_⟩
      · rcases addR_mem.1 hz with rfl | hz
        · unfold gap; omega
        · exact h1 z hz
      · rcases List.mem_cons.1 hz with rfl | hz
        · exact hy
        · exact ih.2 z hz
theorem hasP_addR {x : Span} {l : List Span} {t k : Int} : hasP (addR x l) t k ↔ pt x t k ∨ hasP l t k := by
  simp only [hasP, addR_mem]
  exact ⟨fun ⟨z, h, p⟩ => h.elim (fun h => .inl (h ▸ p)) fun h => .inr ⟨z, h, p⟩, fun q => q.elim (fun p => ⟨x, .inl rfl, p⟩) fun ⟨z, h, p⟩ => ⟨z, .inr h, p⟩⟩
theorem addA_all : ∀ (l : List Span) {o : List Span} {x : Span}, Can o → Can l → (∀ z ∈ o, ∀ y ∈ l, gap z y) → (∀ z ∈ o, apt z x) → x.2.1 ≤ x.2.2 → okN x → (∀ z ∈ o, okN z) → (∀ z ∈ l, okN z) →
    Can (l.foldl stepA (o, x)).1 ∧ (∀ z ∈ (l.foldl stepA (o, x)).1, apt z (l.foldl stepA (o, x)).2) ∧ (l.foldl stepA (o, x)).2.2.1 ≤ (l.foldl stepA (o, x)).2.2.2 ∧ okN (l.foldl stepA (o, x)).2 ∧ (∀ z ∈ (l.foldl stepA (o, x)).1, okN z) ∧ (l.foldl stepA (o, x)).1.length ≤ o.length + l.length ∧
    ∀ t k, (pt (l.foldl stepA (o, x)).2 t k ∨ hasP (l.foldl stepA (o, x)).1 t k) ↔ pt x t k ∨ hasP o t k ∨ hasP l t k
  | [], o, x, ho, _, _, ha, hx, nx, no, _ => ⟨ho, ha, hx, nx, no, Nat.le_refl _, fun t k => ⟨fun q => q.elim .inl fun q => .inr (.inl q), fun q => q.elim .inl fun q => q.elim .inr fun q => absurd q hasP_nil⟩⟩
  | y :: l, o, x, ho, hl, hg, ha, hx, nx, no, nl => by
    obtain ⟨h1, h2⟩ := List.pairwise_cons.1 hl.1
    have hy := hl.2 y (.head _)
    have ny := nl y (.head _)
    have gy := fun z hz => hg z hz y (.head _)
    rw [List.foldl_cons]
    by_cases h : tchS y x
    · rw [stepA_y h]
      have h' := (tch_iff ny nx).1 h
      have m1 : (mrg y x).1 = x.1 := rfl
      have m2 : (mrg y x).2.1 = min y.2.1 x.2.1 := by show (if y.2.1 < x.2.1 then y.2.1 else x.2.1) = _; split <;> omega
      have m3 : (mrg y x).2.2 = max y.2.2 x.2.2 := by show (if y.2.2 > x.2.2 then y.2.2 else x.2.2) = _; split <;> omega
      have nm : okN (mrg y x) := by
        have q1 := ny.1
        have q2 := ny.2
        have q3 := nx.1
        have q4 := nx.2
        unfold in64 at q1 q2 q3 q4
        refine ⟨?_, ?_⟩
        · rw [m2]; unfold in64; omega
        · rw [m3]; unfold in64; omega
      obtain ⟨r1, r2, r3, r4, r5, r6, r7⟩ := addA_all l (o := o) (x := mrg y x) ho hl.tail (fun z hz w hw => hg z hz w (.tail _ hw)) (fun z hz => by
        have q1 := ha z hz
        have q2 := gy z hz
        have q3 := ho.2 z hz
        unfold apt at q1 ⊢
        unfold gap at q2
        rw [m1, m2, m3]
        omega) (by rw [m2, m3]; omega) nm no fun z hz => nl z (.tail _ hz)
      refine ⟨r1, r2, r3, r4, r5, by rw [List.length_cons]; omega, fun t k => (r7 t k).trans ?_⟩
      rw [hasP_cons]
      have e : pt (mrg y x) t k ↔ pt x t k ∨ pt y t k := by
        unfold pt
        rw [m1, m2, m3]
        omega
      rw [e, or_assoc]
      exact or_congr Iff.rfl ⟨fun q => q.elim (fun q => .inr (.inl q)) fun q => q.elim .inl fun q => .inr (.inr q), fun q => q.elim (fun q => .inr (.inl q)) fun q => q.elim .inl fun q => .inr (.inr q)⟩
    · rw [stepA_n h]
      have h' : ¬ (y.1 = x.1 ∧ x.2.1 ≤ y.2.2 + 1 ∧ y.2.1 ≤ x.2.2 + 1) := fun q => h ((tch_iff ny nx).2 q)
      have ay : apt y x := by unfold apt; omega
      obtain ⟨r1, r2, r3, r4, r5, r6, r7⟩ := addA_all l (o := o ++ [y]) (x := x) ⟨List.pairwise_append.2 ⟨ho.1, List.pairwise_singleton _ _, fun z hz w hw => by obtain rfl := List.mem_singleton.1 hw; exact gy z hz⟩, fun z hz => by
          rcases List.mem_append.1 hz with hz | hz
          · exact ho.2 z hz
          · obtain rfl := List.mem_singleton.1 hz; exact hy⟩ hl.tail (fun z hz w hw => by
          rcases List.mem_append.1 hz with hz | hz
          · exact hg z hz w (.tail _ hw)
          · obtain rfl := List.mem_singleton.1 hz; exact h1 w hw) (fun z hz => by
          rcases List.mem_append.1 hz with hz | hz
          · exact ha z hz
          · obtain rfl := List.mem_singleton.1 hz; exact ay) hx nx (fun z hz => by
          rcases List.mem_append.1 hz with hz | hz
          · exact no z hz
          · obtain rfl := List.mem_singleton.1 hz; exact ny) fun z hz => nl z (.tail _ hz)
      refine ⟨r1, r2, r3, r4, r5, by rw [List.length_append] at r6; simp only [List.length_cons, List.length_nil] at r6 ⊢; omega, fun t k => (r7 t k).trans ?_⟩
      rw [hasP_app, hasP_cons, hasP_cons, or_assoc, or_assoc]
      simp only [hasP_nil, false_or]
theorem addR_len {x : Span} : ∀ l : List Span, (addR x l).length = l.length + 1
  | [] => rfl
  | y :: l => by
    unfold addR
    split
    · rfl
    · rw [List.length_cons, addR_len l, List.length_cons]
theorem addK_can {l : List Span} {x : Span} (hl : Can l) (nl : ∀ z ∈ l, okN z) (nx : okN x) : Can (addK l x) ∧ (∀ z ∈ addK l x, okN z) ∧ (addK l x).length ≤ l.length + 1 ∧ ∀ t k, hasP (addK l x) t k ↔ hasP l t k ∨ pt x t k := by
  unfold addK
  by_cases h : x.2.1 > x.2.2
  · rw [if_pos h]
    refine ⟨hl, nl, by omega, fun t k => ⟨.inl, fun q => q.elim id fun p => ?_⟩⟩
    unfold pt at p
    omega
  · rw [if_neg h]
    obtain ⟨r1, r2, r3, r4, r5, r6, r7⟩ := addA_all l (o := []) (x := x) ⟨.nil, fun _ h => by cases h⟩ hl (fun _ h => by cases h) (fun _ h => by cases h) (by omega) nx (fun _ h => by cases h) nl
    have e : addE (addA x l).2 (addB (addA x l).2 (addA x l).1) = addR (addA x l).2 (addA x l).1 := stepB_open _ []
    rw [e]
    refine ⟨addR_can r3 r1 r2, fun z hz => ?_, by rw [addR_len]; simpa [addA] using r6, fun t k => ?_⟩
    · rcases addR_mem.1 hz with q | hz
      · rw [q]; exact r4
      · exact r5 z hz
    · rw [hasP_addR]
      refine (r7 t k).trans ⟨fun q => q.elim .inr fun q => q.elim (fun q => absurd q hasP_nil) .inl, fun q => q.elim (fun q => .inr (.inr q)) .inl⟩
def addAll (l : List Span) : List Span := l.foldl addK []
theorem addF {l : List Span} : ∀ {o : List Span}, Can o → (∀ z ∈ o, okN z) → (∀ z ∈ l, okN z) → Can (l.foldl addK o) ∧ (∀ z ∈ l.foldl addK o, okN z) ∧ (l.foldl addK o).length ≤ o.length + l.length ∧ ∀ t k, hasP (l.foldl addK o) t k ↔ hasP o t k ∨ hasP l t k := by
  induction l with
  | nil => exact fun h n _ => ⟨h, n, Nat.le_refl _, fun t k => ⟨.inl, fun q => q.elim id fun q => absurd q hasP_nil⟩⟩
  | cons y l ih =>
    intro o h n nl
    obtain ⟨p1, p2, p3, p4⟩ := addK_can h n (nl y (.head _))
    obtain ⟨q1, q2, q3, q4⟩ := ih p1 p2 fun z hz => nl z (.tail _ hz)
    refine ⟨q1, q2, by rw [List.foldl_cons, List.length_cons]; omega, fun t k => ?_⟩
    rw [List.foldl_cons, q4, p4, hasP_cons, or_assoc]
theorem addAll_sj {l : List Span} (h : ∀ z ∈ l, okN z) : addAll l = sj l := by
  obtain ⟨q1, q2, q3, q4⟩ := addF (l := l) (o := []) ⟨.nil, fun _ h => by cases h⟩ (fun _ h => by cases h) h
  exact (sj_is h q1 fun t k => ((q4 t k).trans ⟨fun h => h.elim (fun h => absurd h hasP_nil) id, .inr⟩).symm).symm
theorem addAll_le {l : List Span} (h : ∀ z ∈ l, okN z) : (addAll l).length ≤ l.length := by rw [addAll_sj h]; exact sj_len l
theorem addAll_snoc (l : List Span) (x : Span) : addAll (l ++ [x]) = addK (addAll l) x := by
  unfold addAll
  rw [List.foldl_append]
  rfl
theorem insK_t {l o : List Key} {k : Key} {i : Nat} {d : Bool} (h : (o, d) = insS k (l.take i)) (hi : ¬ i < l.length) (hd : d = true) : o = insK l k := by
  rw [List.take_of_length_le (by omega)] at h
  subst hd
  unfold insK
  rw [← h]
  rfl
theorem insK_f {l o : List Key} {k : Key} {i : Nat} {d : Bool} (h : (o, d) = insS k (l.take i)) (hi : ¬ i < l.length) (hd : d = false) : o ++ [k] = insK l k := by
  rw [List.take_of_length_le (by omega)] at h
  subst hd
  unfold insK
  rw [← h]
  rfl
theorem addK_e {l : List Span} {x : Span} (h : x.2.1 > x.2.2) : l = addK l x := (if_pos h).symm
theorem addK_t {l o w : List Span} {x x2 : Span} {i j : Nat} {d : Bool} (h0 : ¬ x.2.1 > x.2.2) (h : (o, x2) = addA x (l.take i)) (hi : ¬ i < l.length) (h2 : (w, d) = addB x2 (o.take j)) (hj : ¬ j < o.length) (hd : d = true) : w = addK l x := by
  rw [List.take_of_length_le (by omega)] at h h2
  subst hd
  unfold addK
  rw [if_neg h0, ← h]
  show w = addE x2 (addB x2 o)
  rw [← h2]
  rfl
theorem addK_f {l o w : List Span} {x x2 : Span} {i j : Nat} {d : Bool} (h0 : ¬ x.2.1 > x.2.2) (h : (o, x2) = addA x (l.take i)) (hi : ¬ i < l.length) (h2 : (w, d) = addB x2 (o.take j)) (hj : ¬ j < o.length) (hd : d = false) : w ++ [x2] = addK l x := by
  rw [List.take_of_length_le (by omega)] at h h2
  subst hd
  unfold addK
  rw [if_neg h0, ← h]
  show w ++ [x2] = addE x2 (addB x2 o)
  rw [← h2]
  rfl
def feetAt (l : List Foot) (i : Nat) : Foot := l[i]?.getD ([], [], [])
theorem feetAt_eq {l : List Foot} {i : Nat} {x : Foot} (h : l[i]? = some x) : feetAt l i = x := by unfold feetAt; rw [h]; rfl
theorem feet_bd {l : List Foot} (h : ∀ x ∈ l, x.1.length ≤ 1000000 ∧ x.2.1.length ≤ 1000000 ∧ x.2.2.length ≤ 1000000) (i : Nat) : (feetAt l i).1.length ≤ 1000000 ∧ (feetAt l i).2.1.length ≤ 1000000 ∧ (feetAt l i).2.2.length ≤ 1000000 := by
  unfold feetAt
  cases hx : l[i]? with
  | none => exact ⟨Nat.zero_le _, Nat.zero_le _, Nat.zero_le _⟩
  | some x => exact h x (List.mem_of_getElem? hx)
theorem feet_bdR {l : List Foot} (h : ∀ x ∈ l, x.1.length ≤ 1000000 ∧ x.2.1.length ≤ 1000000 ∧ x.2.2.length ≤ 1000000) (i : Nat) : (feetAt l i).1.length ≤ 1000000 := (feet_bd h i).1
theorem feet_bdS {l : List Foot} (h : ∀ x ∈ l, x.1.length ≤ 1000000 ∧ x.2.1.length ≤ 1000000 ∧ x.2.2.length ≤ 1000000) (i : Nat) : (feetAt l i).2.1.length ≤ 1000000 := (feet_bd h i).2.1
theorem feet_bdW {l : List Foot} (h : ∀ x ∈ l, x.1.length ≤ 1000000 ∧ x.2.1.length ≤ 1000000 ∧ x.2.2.length ≤ 1000000) (i : Nat) : (feetAt l i).2.2.length ≤ 1000000 := (feet_bd h i).2.2
theorem take_snoc {α : Type} {l : List α} {k : Nat} {y : α} (h : l[k]? = some y) : l.take (k + 1) = l.take k ++ [y] := by rw [List.take_add_one, h]; rfl
theorem snocR {l : List Foot} {i k : Nat} {x : Foot} {y : Key} (hx : l[i]? = some x) (hy : x.1[k]? = some y) : insK (insAll (flatR (l.take i) ++ (feetAt l i).1.take k)) y = insAll (flatR (l.take i) ++ (feetAt l i).1.take (k + 1)) := by
  rw [feetAt_eq hx, take_snoc hy, ← List.append_assoc, insAll_snoc]
theorem endR {l : List Foot} {i k : Nat} {x : Foot} (hx : l[i]? = some x) (hk : ¬ k < x.1.length) : insAll (flatR (l.take i) ++ (feetAt l i).1.take k) = insAll (flatR (l.take (i + 1))) := by
  have e : x.1.take k = x.1 := List.take_of_length_le (by omega)
  rw [feetAt_eq hx, e, flatR_succ hx]
theorem snocS {l : List Foot} {i k : Nat} {x : Foot} {y : Span} (hx : l[i]? = some x) (hy : x.2.1[k]? = some y) : addK (addAll (flatS (l.take i) ++ (feetAt l i).2.1.take k)) y = addAll (flatS (l.take i) ++ (feetAt l i).2.1.take (k + 1)) := by
  rw [feetAt_eq hx, take_snoc hy, ← List.append_assoc, addAll_snoc]
theorem endS {l : List Foot} {i k : Nat} {x : Foot} (hx : l[i]? = some x) (hk : ¬ k < x.2.1.length) : addAll (flatS (l.take i) ++ (feetAt l i).2.1.take k) = addAll (flatS (l.take (i + 1))) := by
  have e : x.2.1.take k = x.2.1 := List.take_of_length_le (by omega)
  rw [feetAt_eq hx, e, flatS_succ hx]
theorem snocW {l : List Foot} {i k : Nat} {x : Foot} {y : Key} (hx : l[i]? = some x) (hy : x.2.2[k]? = some y) : insK (insAll (flatW (l.take i) ++ (feetAt l i).2.2.take k)) y = insAll (flatW (l.take i) ++ (feetAt l i).2.2.take (k + 1)) := by
  rw [feetAt_eq hx, take_snoc hy, ← List.append_assoc, insAll_snoc]
theorem endW {l : List Foot} {i k : Nat} {x : Foot} (hx : l[i]? = some x) (hk : ¬ k < x.2.2.length) : insAll (flatW (l.take i) ++ (feetAt l i).2.2.take k) = insAll (flatW (l.take (i + 1))) := by
  have e : x.2.2.take k = x.2.2 := List.take_of_length_le (by omega)
  rw [feetAt_eq hx, e, flatW_succ hx]
theorem bndR {l : List Foot} {i k : Nat} {x : Foot} (hx : l[i]? = some x) : (insAll (flatR (l.take i) ++ (feetAt l i).1.take k)).length ≤ (flatR l).length := by
  have q := flatR_take l (i + 1)
  have q2 := insAll_le (flatR (l.take i) ++ (feetAt l i).1.take k)
  rw [flatR_succ hx] at q
  rw [feetAt_eq hx] at q2 ⊢
  simp only [List.length_append, List.length_take] at q q2
  omega
theorem bndW {l : List Foot} {i k : Nat} {x : Foot} (hx : l[i]? = some x) : (insAll (flatW (l.take i) ++ (feetAt l i).2.2.take k)).length ≤ (flatW l).length := by
  have q := flatW_take l (i + 1)
  have q2 := insAll_le (flatW (l.take i) ++ (feetAt l i).2.2.take k)
  rw [flatW_succ hx] at q
  rw [feetAt_eq hx] at q2 ⊢
  simp only [List.length_append, List.length_take] at q q2
  omega
theorem bndS {l : List Foot} {i k : Nat} {x : Foot} (hn : ∀ z ∈ flatS l, okN z) (hx : l[i]? = some x) : (addAll (flatS (l.take i) ++ (feetAt l i).2.1.take k)).length ≤ (flatS l).length := by
  have q := flatS_take l (i + 1)
  have e : flatS l = flatS (l.take (i + 1)) ++ flatS (l.drop (i + 1)) := by
    unfold flatS
    rw [← List.flatMap_append, List.take_append_drop]
  have q2 := addAll_le (l := flatS (l.take i) ++ (feetAt l i).2.1.take k) fun z hz => hn z (by
    rw [e, flatS_succ hx]
    rw [feetAt_eq hx] at hz
    rcases List.mem_append.1 hz with hz | hz
    · exact List.mem_append_left _ (List.mem_append_left _ hz)
    · exact List.mem_append_left _ (List.mem_append_right _ (List.mem_of_mem_take hz)))
  rw [flatS_succ hx] at q
  rw [feetAt_eq hx] at q2 ⊢
  simp only [List.length_append, List.length_take] at q q2
  omega
end Go.Proofs.Ytekeepgjegkedaa