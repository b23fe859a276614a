/-
  Which operations stand before which; how many are left; the next one.
-/
import Derived.Test.YtfnbgfmmlgbfjaaGreatDoorAiTrace
namespace Go.Ai

theorem row_bit (acc : Array Nat) (k : Nat) : ∀ (l : List Edge) (s : Nat), (l.foldl (fun s e => if Region.binds .any e then s ||| 2 ^ e.on ||| acc.getD e.on 0 else s) s).testBit k = true →
    s.testBit k = true ∨ ∃ e ∈ l, Region.binds .any e = true ∧ (e.on = k ∨ (acc.getD e.on 0).testBit k = true)
  | [], s, h => .inl h
  | e :: r, s, h => by
    simp only [List.foldl_cons] at h
    rcases row_bit acc k r _ h with h1 | ⟨e', he, h2⟩
    · split at h1
      · rename_i hb
        simp only [Nat.testBit_or, Bool.or_eq_true, Nat.testBit_two_pow, decide_eq_true_eq] at h1
        rcases h1 with (h1 | h1) | h1
        · exact .inl h1
        · exact .inr ⟨e, List.mem_cons_self .., hb, .inl h1⟩
        · exact .inr ⟨e, List.mem_cons_self .., hb, .inr h1⟩
      · exact .inl h1
    · exact .inr ⟨e', List.mem_cons_of_mem _ he, h2⟩

def rowOf (acc : Array Nat) (o : Oper) : Nat := o.after.foldl (fun s e => if Region.binds .any e then s ||| 2 ^ e.on ||| acc.getD e.on 0 else s) 0

theorem rows_bit : ∀ (l : List Oper) (acc : Array Nat), (l.foldl (fun acc o => acc.push (rowOf acc o)) acc).size = acc.size + l.length ∧
    (∀ i, i < acc.size → (l.foldl (fun acc o => acc.push (rowOf acc o)) acc).getD i 0 = acc.getD i 0) ∧
    ∀ i k, acc.size ≤ i → ((l.foldl (fun acc o => acc.push (rowOf acc o)) acc).getD i 0).testBit k = true → ∃ o, l[i - acc.size]? = some o ∧ ∃ e ∈ o.after, Region.binds .any e = true ∧ (e.on = k ∨ (e.on < i ∧ ((l.foldl (fun acc o => acc.push (rowOf acc o)) acc).getD e.on 0).testBit k = true))
  | [], acc => by
    refine ⟨rfl, fun _ _ => rfl, fun i k hi h => ?_⟩
    exfalso
    have : acc.getD i 0 = 0 := by simp [Array.getD, Nat.not_lt.2 hi]
    simp only [List.foldl_nil, this] at h
    simp at h
  | o :: r, acc => by
    obtain ⟨h1, h2, h3⟩ := rows_bit r (acc.push (rowOf acc o))
    simp only [List.foldl_cons]
    generalize hR : r.foldl (fun acc o => acc.push (rowOf acc o)) (acc.push (rowOf acc o)) = R at *
    simp only [Array.size_push] at h1 h2 h3
    have hold : ∀ i, i < acc.size → R.getD i 0 = acc.getD i 0 := fun i hi => by
      rw [h2 i (by omega)]
      simp [Array.getD, hi, Array.getElem_push, Nat.lt_succ_of_lt hi]
    refine ⟨by simp only [List.length_cons]; omega, hold, fun i k hi h => ?_⟩
    by_cases he : i = acc.size
    · subst he
      rw [h2 _ (by omega)] at h
      have hg : (acc.push (rowOf acc o)).getD acc.size 0 = rowOf acc o := by simp [Array.getD]
      rw [hg] at h
      unfold rowOf at h
      rw [← Array.foldl_toList] at h
      rcases row_bit acc k _ _ h with h | ⟨e, hm, hb, h⟩
      · simp at h
      · refine ⟨o, by simp, e, by simpa using hm, hb, ?_⟩
        rcases h with h | h
        · exact .inl h
        · by_cases hlt : e.on < acc.size
          · exact .inr ⟨hlt, by rw [hold _ hlt]; exact h⟩
          · have : acc.getD e.on 0 = 0 := by simp [Array.getD, hlt]
            rw [this] at h; simp at h
    · obtain ⟨p, hp, e, hm, hb, h⟩ := h3 i k (by omega) h
      refine ⟨p, ?_, e, hm, hb, h⟩
      rw [show i - acc.size = (i - (acc.size + 1)) + 1 from by omega]
      simpa using hp

theorem bit_edge {ops : Array Oper} {i k : Nat} (h : Bit ops i k) : ∃ o, ops[i]? = some o ∧ ∃ e ∈ o.after, Region.binds .any e = true ∧ (e.on = k ∨ (e.on < i ∧ Bit ops e.on k)) := by
  have hb : Region.before ops = ops.toList.foldl (fun acc o => acc.push (rowOf acc o)) #[] := by
    unfold Region.before
    rw [← Array.foldl_toList]
    rfl
  unfold Bit at h ⊢
  rw [hb] at h ⊢
  obtain ⟨o, ho, r⟩ := (rows_bit ops.toList #[]).2.2 i k (Nat.zero_le _) h
  exact ⟨o, by simpa using ho, r⟩

theorem bit_down {ops : Array Oper} {D : Nat → Prop} (hD : ∀ j o, D j → ops[j]? = some o → ∀ e ∈ o.after, Region.binds .any e = true → D e.on) : ∀ (j k : Nat), D j → Bit ops j k → D k := by
  intro j
  induction j using Nat.strongRecOn with
  | _ j ih =>
    intro k hj hb
    obtain ⟨o, ho, e, he, hbd, h⟩ := bit_edge hb
    have hd := hD j o hj ho e he hbd
    rcases h with rfl | ⟨hlt, h⟩
    · exact hd
    · exact ih _ hlt k hd h

/-! ### how many are left -/
theorem count_drop {p p' : Nat → Bool} {i : Nat} (hp : p i = true) (hp' : p' i = false) (h : ∀ j, j ≠ i → p' j = p j) : ∀ (l : List Nat), l.Nodup → i ∈ l → (l.filter p).length = (l.filter p').length + 1
  | [], _, hm => by cases hm
  | a :: l, hn, hm => by
    obtain ⟨hn1, hn2⟩ := List.nodup_cons.1 hn
    by_cases ha : a = i
    · subst ha
      rw [List.filter_cons_of_pos hp, List.filter_cons_of_neg (by simp [hp'])]
      simp only [List.length_cons]
      congr 1
      congr 1
      refine List.filter_congr fun x hx => ?_
      rw [h x]
      rintro rfl; exact hn1 hx
    · have hm' : i ∈ l := by
        rcases List.mem_cons.1 hm with h | h
        · exact absurd h.symm ha
        · exact h
      have := count_drop hp hp' h l hn2 hm'
      have hpa := h a ha
      cases hq : p a with
      | true =>
        rw [List.filter_cons_of_pos hq, List.filter_cons_of_pos (by rw [hpa]; exact hq)]
        simp only [List.length_cons]
        omega
      | false =>
        rw [List.filter_cons_of_neg (by simp [hq]), List.filter_cons_of_neg (by rw [hpa]; simp [hq])]
        exact this

def left (n : Nat) (listed : Array Bool) : Nat := ((List.range n).filter fun i => !listed.getD i true).length

theorem left_set {n : Nat} {listed : Array Bool} (hs : listed.size = n) {i : Nat} (hi : i < n) (hu : listed.getD i true = false) : left n listed = left n (listed.setIfInBounds i true) + 1 := by
  refine count_drop (i := i) (by simp [hu]) ?_ ?_ _ List.nodup_range (by simpa using hi)
  · simp [Array.getD, hs, hi]
  · intro j hj
    by_cases hjs : j < listed.size
    · simp [Array.getD, hjs, Ne.symm hj]
    · simp [Array.getD, hjs]

theorem left_zero {n : Nat} {listed : Array Bool} (h : left n listed = 0) {i : Nat} (hi : i < n) : listed.getD i true = true := by
  unfold left at h
  rw [List.length_eq_zero_iff, List.filter_eq_nil_iff] at h
  have := h i (by simpa using hi)
  simpa using this

theorem ready_some {ops : Array Oper} (hok : drawOk ops = true) {listed : Array Bool} (hs : listed.size = ops.size) {n : Nat} (h : left ops.size listed = n + 1) : Region.ready .any ops listed ≠ [] := by
  obtain ⟨i, hi, hu, hmin⟩ : ∃ i, i < ops.size ∧ listed.getD i true = false ∧ ∀ j, j < i → listed.getD j true = true := by
    have hex : ∃ i, i < ops.size ∧ listed.getD i true = false := by
      have : (List.range ops.size).filter (fun i => !listed.getD i true) ≠ [] := by
        intro he
        unfold left at h
        rw [he] at h
        cases h
      obtain ⟨i, hi⟩ := List.exists_mem_of_ne_nil _ this
      rw [List.mem_filter] at hi
      exact ⟨i, by simpa using hi.1, by simpa using hi.2⟩
    obtain ⟨i0, h0⟩ := hex
    induction i0 using Nat.strongRecOn with
    | _ i0 ih =>
      by_cases hq : ∃ j, j < i0 ∧ listed.getD j true = false
      · obtain ⟨j, hj, hju⟩ := hq
        exact ih j hj ⟨by omega, hju⟩
      · refine ⟨i0, h0.1, h0.2, fun j hj => ?_⟩
        cases hb : listed.getD j true with
        | true => rfl
        | false => exact absurd ⟨j, hj, hb⟩ hq
  have : i ∈ Region.ready .any ops listed := by
    unfold Region.ready
    rw [List.mem_filter]
    refine ⟨by simpa using hi, ?_⟩
    have ho : ops[i]? = some ops[i] := by simp [hi]
    rw [Bool.and_eq_true]
    refine ⟨by simp [hu], ?_⟩
    rw [ho]
    simp only [Option.map_some, Option.getD_some, Array.all_eq_true']
    intro e he
    cases hb : Region.binds .any e with
    | false => rfl
    | true =>
      have hlt := drawOk_edge hok ho e he hb
      have hl := hmin _ hlt
      have hsz : e.on < listed.size := by omega
      have : listed.getD e.on false = listed.getD e.on true := by simp [Array.getD, hsz]
      simp [this, hl]
  intro he
  rw [he] at this
  cases this

theorem ready_mem {ops : Array Oper} {listed : Array Bool} (_hs : listed.size = ops.size) {i : Nat} (h : i ∈ Region.ready .any ops listed) : ∃ o, ops[i]? = some o ∧ i < ops.size ∧ listed.getD i true = false ∧ ∀ e ∈ o.after, Region.binds .any e = true → listed.getD e.on false = true := by
  unfold Region.ready at h
  rw [List.mem_filter] at h
  obtain ⟨h1, h2⟩ := h
  have hi : i < ops.size := by simpa using h1
  have ho : ops[i]? = some ops[i] := by simp [hi]
  rw [Bool.and_eq_true, ho] at h2
  simp only [Option.map_some, Option.getD_some, Array.all_eq_true'] at h2
  refine ⟨ops[i], ho, hi, by simpa using h2.1, fun e he hb => ?_⟩
  have := h2.2 e he
  rw [hb] at this
  simpa using this

end Go.Ai
