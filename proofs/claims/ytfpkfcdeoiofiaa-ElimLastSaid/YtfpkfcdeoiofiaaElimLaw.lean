/- Which writes are kept: the law. -/
import Derived.Test.YtfpkfcdeoiofiaaJoin
import Derived.Test.YtfpkfcdeoiofiaaGood
import Derived.Test.YtfpkfcdeoiofiaaAiComp
set_option linter.unusedVariables false
set_option linter.unusedSimpArgs false
set_option linter.unnecessarySimpa false
namespace Go.Proofs.Ytfpkfcdeoiofiaa
open Go.Ai
/-- the key of a write -/
abbrev wk (w : Wr) : Key := (w.1, w.2.1)
abbrev rW (r : Rec8) : List Wr := r.2.2.2.2.2.2.2
/-- what is put together for a record -/
def touchF (r : Rec8) : Foot := if r.2.1 = true then ([], [], (rW r).map wk) else (r.2.2.2.2.1, r.2.2.2.2.2.1, r.2.2.2.2.2.2.1)
def touchJ (r : Rec8) : Foot := jn [touchF r]
/-- is a key written anew ahead of a look at it? -/
def lostB (k : Key) : List Foot → Prop
  | [] => False
  | f :: r => ¬ readsP f.1 f.2.1 k.1 k.2 ∧ (hasK f.2.2 k.1 k.2 ∨ lostB k r)
noncomputable def keptW (r : Rec8) (behind : List Foot) : List Wr := if r.2.1 = true then (rW r).filter (fun w => !tf (lostB (wk w) behind)) else []
def feetL (l : List Rec8) : List Foot := l.map touchJ
noncomputable def keptL : List Rec8 → List (List Wr)
  | [] => []
  | r :: rest => keptW r (feetL rest) :: keptL rest
theorem kept_len : ∀ l : List Rec8, (keptL l).length = l.length
  | [] => rfl
  | _ :: r => congrArg (· + 1) (kept_len r)
theorem kept_get : ∀ (l : List Rec8) (i : Nat), (keptL l)[i]? = l[i]?.map fun r => keptW r ((feetL l).drop (i + 1))
  | [], i => rfl
  | r :: rest, 0 => rfl
  | r :: rest, i + 1 => by
    show (keptL rest)[i]? = _
    rw [kept_get rest i]
    rfl
theorem kept_last {l : List Rec8} {r : Rec8} (h : l[l.length - 1]? = some r) (hv : r.2.1 = true) : (keptL l)[l.length - 1]? = some (rW r) := by
  rw [kept_get, h, Option.map_some]
  have hl : 0 < l.length := by have := (List.getElem?_eq_some_iff.1 h).1; omega
  have e : (feetL l).drop (l.length - 1 + 1) = [] := List.drop_eq_nil_of_le (by unfold feetL; rw [List.length_map]; omega)
  rw [e]
  unfold keptW
  rw [if_pos hv]
  have e2 : ∀ w : Wr, (!tf (lostB (wk w) [])) = true := fun w => by rw [tf_false (show ¬ lostB (wk w) [] from id)]; rfl
  rw [List.filter_eq_self.2 fun w _ => e2 w]
/-- records of values -/
def valR (r : Rec8) : Prop := r.2.1 = true ∧ ((rW r).map wk).Nodup
theorem touch_val {r : Rec8} (h : r.2.1 = true) : touchJ r = ([], [], kj ((rW r).map wk)) := by
  unfold touchJ touchF
  rw [if_pos h]
  show (kj [], sj [], kj (flatW [([], [], (rW r).map wk)])) = _
  rw [show flatW [(([] : List Key), ([] : List Span), (rW r).map wk)] = (rW r).map wk from by simp [flatW]]
  have e1 : kj [] = [] := List.eq_nil_of_length_eq_zero (by have := kj_len []; simpa using this)
  have e2 : sj [] = [] := List.eq_nil_of_length_eq_zero (by have := sj_len []; simpa using this)
  rw [e1, e2]
theorem hasK_mem {l : List Key} {k : Key} : hasK l k.1 k.2 ↔ k ∈ l :=
  ⟨fun ⟨x, h, e1, e2⟩ => by rwa [show k = x from Prod.ext e1.symm e2.symm], fun h => ⟨k, h, rfl, rfl⟩⟩
/-- a key is lost where a later record writes it -/
theorem lost_val (k : Key) : ∀ {l : List Rec8}, (∀ r ∈ l, r.2.1 = true) → (lostB k (feetL l) ↔ ∃ r ∈ l, k ∈ (rW r).map wk)
  | [], _ => ⟨fun h => h.elim, fun ⟨_, h, _⟩ => by cases h⟩
  | r :: l, h => by
    have ih := lost_val k (l := l) fun z hz => h z (.tail _ hz)
    have hr := h r (.head _)
    show lostB k (touchJ r :: feetL l) ↔ _
    rw [touch_val hr]
    have n1 : ¬ readsP ([] : List Key) ([] : List Span) k.1 k.2 := by
      rintro (⟨_, h, _⟩ | ⟨_, h, _⟩) <;> cases h
    have e : hasK (kj ((rW r).map wk)) k.1 k.2 ↔ k ∈ (rW r).map wk := hasK_mem.trans kj_mem
    constructor
    · rintro ⟨_, q | q⟩
      · exact ⟨r, .head _, e.1 q⟩
      · obtain ⟨z, hz, hk⟩ := ih.1 q
        exact ⟨z, .tail _ hz, hk⟩
    · rintro ⟨z, hz, hk⟩
      refine ⟨n1, ?_⟩
      rcases List.mem_cons.1 hz with rfl | hz
      · exact .inl (e.2 hk)
      · exact .inr (ih.2 ⟨z, hz, hk⟩)
theorem count_filter_key {P : Key → Bool} {k : Key} : ∀ (l : List Wr), (l.map wk).Nodup → ((l.filter fun w => P (wk w)).map wk).count k = if k ∈ l.map wk ∧ P k = true then 1 else 0
  | [], _ => by simp
  | w :: l, h => by
    obtain ⟨h1, h2⟩ := List.nodup_cons.1 (show (wk w :: l.map wk).Nodup from h)
    have ih := count_filter_key (P := P) (k := k) l h2
    by_cases hp : P (wk w) = true
    · rw [List.filter_cons_of_pos (by exact hp), List.map_cons, List.count_cons, ih, List.map_cons]
      by_cases e : wk w = k
      · subst e
        rw [if_neg (fun q => h1 q.1), if_pos (by simp), if_pos ⟨.head _, hp⟩]
      · have hb : (wk w == k) = false := beq_false_of_ne e
        rw [hb, if_neg (show ¬ false = true by decide), Nat.add_zero]
        by_cases q : k ∈ l.map wk ∧ P k = true
        · rw [if_pos q, if_pos ⟨.tail _ q.1, q.2⟩]
        · rw [if_neg q, if_neg (fun ⟨a, b⟩ => (List.mem_cons.1 a).elim (fun x => e x.symm) fun x => q ⟨x, b⟩)]
    · rw [List.filter_cons_of_neg (by exact hp), ih, List.map_cons]
      by_cases q : k ∈ l.map wk ∧ P k = true
      · rw [if_pos q, if_pos ⟨.tail _ q.1, q.2⟩]
      · rw [if_neg q, if_neg (fun ⟨a, b⟩ => (List.mem_cons.1 a).elim (fun x => hp (x ▸ b)) fun x => q ⟨x, b⟩)]
/-- the keys of all kept writes -/
noncomputable def keptKeys (l : List Rec8) : List Key := ((keptL l).flatten).map wk
theorem kept_count (k : Key) : ∀ {l : List Rec8}, (∀ r ∈ l, valR r) → (keptKeys l).count k = if ∃ r ∈ l, k ∈ (rW r).map wk then 1 else 0
  | [], _ => by simp [keptKeys, keptL]
  | r :: l, h => by
    have ih := kept_count k (l := l) fun z hz => h z (.tail _ hz)
    obtain ⟨hv, hd⟩ := h r (.head _)
    have hl := lost_val (l := l) (k := k) fun z hz => (h z (.tail _ hz)).1
    have e : keptKeys (r :: l) = (((rW r).filter fun w => !tf (lostB (wk w) (feetL l))).map wk) ++ keptKeys l := by
      unfold keptKeys
      show ((keptW r (feetL l) :: keptL l).flatten).map wk = _
      rw [List.flatten_cons, List.map_append]
      unfold keptW
      rw [if_pos hv]
    rw [e, List.count_append, ih, count_filter_key (P := fun k => !tf (lostB k (feetL l))) _ hd]
    by_cases c1 : ∃ z ∈ l, k ∈ (rW z).map wk
    · have t : (!tf (lostB k (feetL l))) = false := by rw [tf_true (hl.2 c1)]; rfl
      rw [if_neg (by rw [t]; simp), if_pos c1, if_pos (by obtain ⟨z, hz, q⟩ := c1; exact ⟨z, .tail _ hz, q⟩)]
    · have t : (!tf (lostB k (feetL l))) = true := by rw [tf_false (fun q => c1 (hl.1 q))]; rfl
      rw [if_neg c1]
      by_cases c2 : k ∈ (rW r).map wk
      · rw [if_pos ⟨c2, t⟩, if_pos ⟨r, .head _, c2⟩]
      · rw [if_neg (fun q => c2 q.1), if_neg]
        rintro ⟨z, hz, q⟩
        rcases List.mem_cons.1 hz with rfl | hz
        · exact c2 q
        · exact c1 ⟨z, hz, q⟩
theorem drop_cons {α : Type} {l : List α} {i : Nat} {x : α} (h : l[i]? = some x) : l.drop i = x :: l.drop (i + 1) := by
  obtain ⟨hi, rfl⟩ := List.getElem?_eq_some_iff.1 h
  exact List.drop_eq_getElem_cons hi
theorem lost_no {l : List Foot} {k : Key} {i : Nat} {x : Foot} (h : lostB k l ↔ lostB k (l.drop i)) (hx : l[i]? = some x) (c : readsP x.1 x.2.1 k.1 k.2) : ¬ lostB k l := by
  rw [h, drop_cons hx]
  exact fun q => q.1 c
theorem lost_yes {l : List Foot} {k : Key} {i : Nat} {x : Foot} (h : lostB k l ↔ lostB k (l.drop i)) (hx : l[i]? = some x) (c : ¬ readsP x.1 x.2.1 k.1 k.2) (d : hasK x.2.2 k.1 k.2) : lostB k l := by
  rw [h, drop_cons hx]
  exact ⟨c, .inl d⟩
theorem lost_next {l : List Foot} {k : Key} {i : Nat} {x : Foot} (h : lostB k l ↔ lostB k (l.drop i)) (hx : l[i]? = some x) (c : ¬ readsP x.1 x.2.1 k.1 k.2) (d : ¬ hasK x.2.2 k.1 k.2) : lostB k l ↔ lostB k (l.drop (i + 1)) := by
  rw [h, drop_cons hx]
  exact ⟨fun q => q.2.resolve_left d, fun q => ⟨c, .inr q⟩⟩
theorem lost_end {l : List Foot} {k : Key} {i : Nat} (h : lostB k l ↔ lostB k (l.drop i)) (hi : ¬ i < l.length) : ¬ lostB k l := by
  rw [h, List.drop_eq_nil_of_le (by omega)]
  exact id
theorem keep_y {l : List Wr} {P : Wr → Prop} {i : Nat} {x : Wr} (hx : l[i]? = some x) (c : ¬ P x) : (l.take (i + 1)).filter (fun w => !tf (P w)) = (l.take i).filter (fun w => !tf (P w)) ++ [x] := by
  rw [List.take_add_one, hx, List.filter_append]
  simp only [Option.toList_some]
  rw [List.filter_cons_of_pos (by rw [tf_false c]; rfl), List.filter_nil]
theorem keep_n {l : List Wr} {P : Wr → Prop} {i : Nat} {x : Wr} (hx : l[i]? = some x) (c : P x) : (l.take (i + 1)).filter (fun w => !tf (P w)) = (l.take i).filter (fun w => !tf (P w)) := by
  rw [List.take_add_one, hx, List.filter_append]
  simp only [Option.toList_some]
  rw [List.filter_cons_of_neg (by rw [tf_true c]; simp), List.filter_nil, List.append_nil]
end Go.Proofs.Ytfpkfcdeoiofiaa