/- The interpreter: what holds of it. -/
import Derived.Test.YtgplkbfjlidinabGreatDoorAiOrd
import Derived.Orders
import Derived.Test.YtgplkbfjlidinabGreatDoorKit
set_option linter.unusedVariables false
set_option linter.unusedSimpArgs false
set_option linter.unnecessarySimpa false
/-
  A region in the text's order: what it passes through, and what was checked of it.
-/
namespace Go.Ai
mutual
theorem veq_eq : ∀ (a b : Value), veq a b = true → a = b
  | .bool a, b, h => by cases b <;> simp_all [veq]
  | .int k a, b, h => by cases b <;> simp_all [veq]
  | .float k a, b, h => by cases b <;> simp_all [veq]
  | .complex k a c, b, h => by cases b <;> simp_all [veq]
  | .string a, b, h => by cases b <;> simp_all [veq]
  | .pointer a, b, h => by cases b <;> simp_all [veq]
  | .slice a n c, b, h => by cases b <;> simp_all [veq]
  | .map a, b, h => by cases b <;> simp_all [veq]
  | .chan a, b, h => by cases b <;> simp_all [veq]
  | .func f a c, b, h => by
    cases b <;> simp only [veq, Bool.and_eq_true, decide_eq_true_eq, Bool.false_eq_true] at h
    rw [h.1.1, veqA_eq a _ h.1.2, veqA_eq c _ h.2]
  | .nilFunc, b, h => by cases b <;> simp_all [veq]
  | .iface t x, b, h => by
    cases b <;> simp only [veq, Bool.and_eq_true, decide_eq_true_eq, Bool.false_eq_true] at h
    rw [h.1, veq_eq x _ h.2]
  | .nilIface, b, h => by cases b <;> simp_all [veq]
  | .agg a, b, h => by
    cases b <;> simp only [veq, Bool.false_eq_true] at h
    rw [veqA_eq a _ h]
  | .tuple a, b, h => by
    cases b <;> simp only [veq, Bool.false_eq_true] at h
    rw [veqA_eq a _ h]
theorem veqA_eq : ∀ (a b : Array Value), veqA a b = true → a = b
  | ⟨a⟩, ⟨b⟩, h => by rw [veqA] at h; rw [veqL_eq a b h]
theorem veqL_eq : ∀ (a b : List Value), veqL a b = true → a = b
  | [], [], _ => rfl
  | [], _ :: _, h => by simp [veqL] at h
  | _ :: _, [], h => by simp [veqL] at h
  | x :: xs, y :: ys, h => by
    simp only [veqL, Bool.and_eq_true] at h
    rw [veq_eq x y h.1, veqL_eq xs ys h.2]
end
section
variable (C : Cfg) (rc : Rec) (ops : Array Oper) (e0 : Env) (s0 : St)
def tr : Nat → Env × St
  | 0 => (e0, s0)
  | i + 1 =>
    match ops[i]? with
    | none => tr i
    | some o =>
      if Region.wanted o (Z2p ops (tr i).1) = true then
        match oneOp C rc (tr i).1 (tr i).2 o.op with
        | .ret x => ((tr i).1.dst o.dst x.1, x.2)
        | _ => tr i
      else ((tr i).1.dst o.dst undef, (tr i).2)
def Bit (i k : Nat) : Prop := ((Region.before ops).getD i 0).testBit k = true
def Eff (k : Nat) : Prop := ∃ o, ops[k]? = some o ∧ Region.wanted o (Z2p ops (tr C rc ops e0 s0 k).1) = true ∧ ¬ Z2l C o.op < 3
def Fact (i : Nat) : Prop :=
 ∀ o, ops[i]? = some o → Region.wanted o (Z2p ops (tr C rc ops e0 s0 i).1) = true →
  ∃ v s', oneOp C rc (tr C rc ops e0 s0 i).1 (tr C rc ops e0 s0 i).2 o.op = .ret (v, s') ∧
   (Z2l C o.op = 2 → ∀ k, k < i → Eff C rc ops e0 s0 k → Bit ops i k ∨ sameAgain C o.op (tr C rc ops e0 s0 i).1 (tr C rc ops e0 s0 k).2 v = true) ∧
   (¬ Z2l C o.op < 3 → (∀ k, k < i → Eff C rc ops e0 s0 k → Bit ops i k) ∧
    ∀ k p vk sk, k < i → ops[k]? = some p → Region.wanted p (Z2p ops (tr C rc ops e0 s0 k).1) = true → Z2l C p.op = 2 → oneOp C rc (tr C rc ops e0 s0 k).1 (tr C rc ops e0 s0 k).2 p.op = .ret (vk, sk) →
     Bit ops i k ∨ sameAgain C p.op (tr C rc ops e0 s0 k).1 s' vk = true)
def LogOk (i : Nat) (L : Log) : Prop :=
 (∀ k, k < i → Eff C rc ops e0 s0 k → (k, (tr C rc ops e0 s0 k).2, (tr C rc ops e0 s0 (k + 1)).2) ∈ L.effects) ∧
 ∀ k p vk sk, k < i → ops[k]? = some p → Region.wanted p (Z2p ops (tr C rc ops e0 s0 k).1) = true → Z2l C p.op = 2 → oneOp C rc (tr C rc ops e0 s0 k).1 (tr C rc ops e0 s0 k).2 p.op = .ret (vk, sk) →
  (k, p.op, (tr C rc ops e0 s0 k).1, vk) ∈ L.reads
variable {C rc ops e0 s0}
theorem tr_run {i : Nat} {o : Oper} (ho : ops[i]? = some o) (hw : Region.wanted o (Z2p ops (tr C rc ops e0 s0 i).1) = true) {v : Value} {s' : St} (h : oneOp C rc (tr C rc ops e0 s0 i).1 (tr C rc ops e0 s0 i).2 o.op = .ret (v, s')) :
  tr C rc ops e0 s0 (i + 1) = ((tr C rc ops e0 s0 i).1.dst o.dst v, s') := by
 rw [tr];simp only [ho];rw [if_pos hw, h]
theorem tr_skip {i : Nat} {o : Oper} (ho : ops[i]? = some o) (hw : ¬ Region.wanted o (Z2p ops (tr C rc ops e0 s0 i).1) = true) :
  tr C rc ops e0 s0 (i + 1) = ((tr C rc ops e0 s0 i).1.dst o.dst undef, (tr C rc ops e0 s0 i).2) := by
 rw [tr];simp only [ho];rw [if_neg hw]
theorem lt_succ_cases {k i : Nat} (h : k < i + 1) : k < i ∨ k = i := Z4
theorem draw_facts {Q : Env × St → Prop} : ∀ (l : List Oper) (i : Nat) (L : Log), ops.toList.drop i = l → i ≤ ops.size → LogOk C rc ops e0 s0 i L →
    (execDraw C rc ops (Region.before ops) i l L (tr C rc ops e0 s0 i).1 (tr C rc ops e0 s0 i).2).All Q →
    (∀ j, i ≤ j → j < ops.size → Fact C rc ops e0 s0 j) ∧ execDraw C rc ops (Region.before ops) i l L (tr C rc ops e0 s0 i).1 (tr C rc ops e0 s0 i).2 = .ret (tr C rc ops e0 s0 ops.size) ∧ Q (tr C rc ops e0 s0 ops.size)
  | [], i, L, hl, hi, hL, h => by
    have : i = ops.size := by
      have := congrArg List.length hl;simp at this
      omega
    subst this;exact ⟨fun j h1 h2 => absurd h1 Z4, rfl, h⟩
  | o :: r, i, L, hl, hi, hL, h => by
    have hlt : i < ops.size := by
      have := congrArg List.length hl;simp at this
      omega
    have ho : ops[i]? = some o := by
      have h1 : (ops.toList.drop i)[0]? = some o := by rw [hl]; rfl
      rw [List.getElem?_drop] at h1;simpa using h1
    have hr : ops.toList.drop (i + 1) = r := by
      have : (ops.toList.drop i).drop 1 = r := by rw [hl]; rfl
      rw [List.drop_drop] at this;exact this
    have noeff : ∀ {k : Nat}, k = i → (Region.wanted o (Z2p ops (tr C rc ops e0 s0 i).1) = true → Z2l C o.op < 3) → ¬ Eff C rc ops e0 s0 k := by
      rintro k rfl hc ⟨p, hp, hw, hcp⟩;rw [ho] at hp;obtain rfl := Option.some.inj hp;exact hcp (hc hw)
    unfold execDraw at h ⊢;by_cases hw : Region.wanted o (Z2p ops (tr C rc ops e0 s0 i).1) = true
    · rw [if_pos hw] at h ⊢
      cases hop : oneOp C rc (tr C rc ops e0 s0 i).1 (tr C rc ops e0 s0 i).2 o.op with
      | fail => rw [hop] at h; exact h.elim
      | ask n k => rw [hop] at h; exact h.elim
      | ret x =>
        obtain ⟨v, s'⟩ := x;rw [hop] at h;have htr := tr_run ho hw hop;dsimp only at h ⊢;have fin : ∀ L', LogOk C rc ops e0 s0 (i + 1) L' → (execDraw C rc ops (Region.before ops) (i + 1) r L' ((tr C rc ops e0 s0 i).1.dst o.dst v) s').All Q →
            ((Z2l C o.op = 2 → ∀ k, k < i → Eff C rc ops e0 s0 k → Bit ops i k ∨ sameAgain C o.op (tr C rc ops e0 s0 i).1 (tr C rc ops e0 s0 k).2 v = true) ∧
            (¬ Z2l C o.op < 3 → (∀ k, k < i → Eff C rc ops e0 s0 k → Bit ops i k) ∧
              ∀ k p vk sk, k < i → ops[k]? = some p → Region.wanted p (Z2p ops (tr C rc ops e0 s0 k).1) = true → Z2l C p.op = 2 → oneOp C rc (tr C rc ops e0 s0 k).1 (tr C rc ops e0 s0 k).2 p.op = .ret (vk, sk) →
                Bit ops i k ∨ sameAgain C p.op (tr C rc ops e0 s0 k).1 s' vk = true)) →
            (∀ j, i ≤ j → j < ops.size → Fact C rc ops e0 s0 j) ∧ execDraw C rc ops (Region.before ops) (i + 1) r L' ((tr C rc ops e0 s0 i).1.dst o.dst v) s' = .ret (tr C rc ops e0 s0 ops.size) ∧ Q (tr C rc ops e0 s0 ops.size) := by
          intro L' hL' hall hchk;have hall' : (execDraw C rc ops (Region.before ops) (i + 1) r L' (tr C rc ops e0 s0 (i + 1)).1 (tr C rc ops e0 s0 (i + 1)).2).All Q := by rw [htr]; exact hall
          obtain ⟨h1, h2, h3⟩ := draw_facts r (i + 1) L' hr hlt hL' hall';rw [htr] at h2;refine ⟨fun j hj hjs => ?_, h2, h3⟩;by_cases hji : j = i
          · subst hji
            intro p hp _;rw [ho] at hp;obtain rfl := Option.some.inj hp;exact ⟨v, s', hop, hchk⟩
          · exact h1 j Z4 hjs
        have hcl : Z2l C o.op = 0 ∨ Z2l C o.op = 1 ∨ Z2l C o.op = 2 ∨ ¬ Z2l C o.op < 3 := Z4
        have low : Z2l C o.op < 3 → Z2l C o.op ≠ 2 → LogOk C rc ops e0 s0 (i + 1) L := fun hc hn => by
          refine ⟨fun k hk he => ?_, fun k p vk sk hk hp hpw hpc hpo => ?_⟩
          · rcases lt_succ_cases hk with hk | rfl
            · exact hL.1 k hk he
            · exact absurd he (noeff rfl fun _ => hc)
          · rcases lt_succ_cases hk with hk | rfl
            · exact hL.2 k p vk sk hk hp hpw hpc hpo
            · rw [ho] at hp
              obtain rfl := Option.some.inj hp;exact absurd hpc hn
        rcases hcl with hc | hc | hc | hc
        · simp only [hc] at h ⊢
          exact fin L (low Z4 Z4) h ⟨fun h2 => Z4, fun h3 => Z4⟩
        · simp only [hc] at h ⊢
          exact fin L (low Z4 Z4) h ⟨fun h2 => Z4, fun h3 => Z4⟩
        · simp only [hc] at h ⊢
          split at h
          · rename_i hck
            rw [if_pos hck];rw [List.all_eq_true] at hck;refine fin _ ⟨fun k hk he => ?_, fun k p vk sk hk hp hpw hpc hpo => ?_⟩ h ⟨fun _ k hk he => ?_, fun h3 => Z4⟩
            · rcases lt_succ_cases hk with hk | rfl
              · exact hL.1 k hk he
              · exact absurd he (noeff rfl fun _ => Z4)
            · rcases lt_succ_cases hk with hk | rfl
              · exact List.mem_cons_of_mem _ (hL.2 k p vk sk hk hp hpw hpc hpo)
              · rw [ho] at hp
                obtain rfl := Option.some.inj hp;rw [hop] at hpo;obtain ⟨rfl, rfl⟩ := by simpa using hpo
                exact List.mem_cons_self ..
            · have := hck _ (hL.1 k hk he)
              rw [Bool.or_eq_true] at this;exact this
          · exact h.elim
        · obtain ⟨n, hn⟩ : ∃ n, Z2l C o.op = n + 3 := ⟨Z2l C o.op - 3, Z4⟩
          simp only [hn] at h ⊢;split at h
          · rename_i hck
            rw [if_pos hck];rw [Bool.and_eq_true, List.all_eq_true, List.all_eq_true] at hck;refine fin _ ⟨fun k hk he => ?_, fun k p vk sk hk hp hpw hpc hpo => ?_⟩ h ⟨fun h2 => Z4, fun _ => ⟨fun k hk he => ?_, fun k p vk sk hk hp hpw hpc hpo => ?_⟩⟩
            · rcases lt_succ_cases hk with hk | rfl
              · exact List.mem_cons_of_mem _ (hL.1 k hk he)
              · rw [htr]; exact List.mem_cons_self ..
            · rcases lt_succ_cases hk with hk | rfl
              · exact hL.2 k p vk sk hk hp hpw hpc hpo
              · rw [ho] at hp
                obtain rfl := Option.some.inj hp;omega
            · exact hck.1 _ (hL.1 k hk he)
            · have := hck.2 _ (hL.2 k p vk sk hk hp hpw hpc hpo)
              rw [Bool.or_eq_true] at this;exact this
          · exact h.elim
    · rw [if_neg hw] at h ⊢
      have htr := tr_skip ho hw;have hL' : LogOk C rc ops e0 s0 (i + 1) L := by
        refine ⟨fun k hk he => ?_, fun k p vk sk hk hp hpw hpc hpo => ?_⟩
        · rcases lt_succ_cases hk with hk | rfl
          · exact hL.1 k hk he
          · exact absurd he (noeff rfl fun h => absurd h hw)
        · rcases lt_succ_cases hk with hk | rfl
          · exact hL.2 k p vk sk hk hp hpw hpc hpo
          · rw [ho] at hp
            obtain rfl := Option.some.inj hp;exact absurd hpw hw
      have hall' : (execDraw C rc ops (Region.before ops) (i + 1) r L (tr C rc ops e0 s0 (i + 1)).1 (tr C rc ops e0 s0 (i + 1)).2).All Q := by rw [htr]; exact h
      obtain ⟨h1, h2, h3⟩ := draw_facts r (i + 1) L hr hlt hL' hall';rw [htr] at h2;refine ⟨fun j hj hjs => ?_, h2, h3⟩;by_cases hji : j = i
      · subst hji
        intro p hp hpw;rw [ho] at hp;obtain rfl := Option.some.inj hp;exact absurd hpw hw
      · exact h1 j Z4 hjs
end
end Go.Ai
/-
  Which operations stand before which; how many are left; the next one.
-/
namespace Go.Ai
theorem row_bit (acc : Array Nat) (k : Nat) : ∀ (l : List Edge) (s : Nat), (l.foldl (fun s e => if Region.binds .any e then s ||| 2 ^ e.on ||| acc.getD e.on 0 else s) s).testBit k = true →
    s.testBit k = true ∨ ∃ e ∈ l, Region.binds .any e = true ∧ (e.on = k ∨ (acc.getD e.on 0).testBit k = true)
  | [], s, h => .inl h
  | e :: r, s, h => by
    simp only [List.foldl_cons] at h;rcases row_bit acc k r _ h with h1 | ⟨e', he, h2⟩
    · split at h1
      · rename_i hb
        simp only [Nat.testBit_or, Bool.or_eq_true, Nat.testBit_two_pow, decide_eq_true_eq] at h1;rcases h1 with (h1 | h1) | h1
        · exact .inl h1
        · exact .inr ⟨e, List.mem_cons_self .., hb, .inl h1⟩
        · exact .inr ⟨e, List.mem_cons_self .., hb, .inr h1⟩
      · exact .inl h1
    · exact .inr ⟨e', List.mem_cons_of_mem _ he, h2⟩
def rowOf (acc : Array Nat) (o : Oper) : Nat := o.after.foldl (fun s e => if Region.binds .any e then s ||| 2 ^ e.on ||| acc.getD e.on 0 else s) 0
theorem rows_bit : ∀ (l : List Oper) (acc : Array Nat), (l.foldl (fun acc o => acc.push (rowOf acc o)) acc).size = acc.size + l.length ∧
    (∀ i, i < acc.size → (l.foldl (fun acc o => acc.push (rowOf acc o)) acc).getD i 0 = acc.getD i 0) ∧
    ∀ i k, acc.size ≤ i → ((l.foldl (fun acc o => acc.push (rowOf acc o)) acc).getD i 0).testBit k = true → ∃ o, l[i - acc.size]? = some o ∧ ∃ e ∈ o.after, Region.binds .any e = true ∧ (e.on = k ∨ (e.on < i ∧ ((l.foldl (fun acc o => acc.push (rowOf acc o)) acc).getD e.on 0).testBit k = true))
  | [], acc => by
    refine ⟨rfl, fun _ _ => rfl, fun i k hi h => ?_⟩;exfalso;have : acc.getD i 0 = 0 := by simp [Array.getD, Nat.not_lt.2 hi]
    simp only [List.foldl_nil, this] at h;simp at h
  | o :: r, acc => by
    obtain ⟨h1, h2, h3⟩ := rows_bit r (acc.push (rowOf acc o));simp only [List.foldl_cons];generalize hR : r.foldl (fun acc o => acc.push (rowOf acc o)) (acc.push (rowOf acc o)) = R at *
    simp only [Array.size_push] at h1 h2 h3;have hold : ∀ i, i < acc.size → R.getD i 0 = acc.getD i 0 := fun i hi => by
      rw [h2 i Z4];simp [Array.getD, hi, Array.getElem_push, Nat.lt_succ_of_lt hi]
    refine ⟨by simp only [List.length_cons]; omega, hold, fun i k hi h => ?_⟩;by_cases he : i = acc.size
    · subst he
      rw [h2 _ Z4] at h;have hg : (acc.push (rowOf acc o)).getD acc.size 0 = rowOf acc o := by simp [Array.getD]
      rw [hg] at h;unfold rowOf at h;rw [← Array.foldl_toList] at h;rcases row_bit acc k _ _ h with h | ⟨e, hm, hb, h⟩
      · simp at h
      · refine ⟨o, Z0u, e, by simpa using hm, hb, ?_⟩
        rcases h with h | h
        · exact .inl h
        · by_cases hlt : e.on < acc.size
          · exact .inr ⟨hlt, by rw [hold _ hlt]; exact h⟩
          · have : acc.getD e.on 0 = 0 := by simp [Array.getD, hlt]
            rw [this] at h; simp at h
    · obtain ⟨p, hp, e, hm, hb, h⟩ := h3 i k Z4 h
      refine ⟨p, ?_, e, hm, hb, h⟩;rw [show i - acc.size = (i - (acc.size + 1)) + 1 from Z4];simpa using hp
theorem bit_edge {ops : Array Oper} {i k : Nat} (h : Bit ops i k) : ∃ o, ops[i]? = some o ∧ ∃ e ∈ o.after, Region.binds .any e = true ∧ (e.on = k ∨ (e.on < i ∧ Bit ops e.on k)) := by
 have hb : Region.before ops = ops.toList.foldl (fun acc o => acc.push (rowOf acc o)) #[] := by
  unfold Region.before;rw [← Array.foldl_toList];rfl
 unfold Bit at h ⊢;rw [hb] at h ⊢;obtain ⟨o, ho, r⟩ := (rows_bit ops.toList #[]).2.2 i k (Nat.zero_le _) h;exact ⟨o, by simpa using ho, r⟩
theorem bit_down {ops : Array Oper} {D : Nat → Prop} (hD : ∀ j o, D j → ops[j]? = some o → ∀ e ∈ o.after, Region.binds .any e = true → D e.on) : ∀ (j k : Nat), D j → Bit ops j k → D k := by
  intro j;induction j using Nat.strongRecOn with
  | _ j ih =>
    intro k hj hb;obtain ⟨o, ho, e, he, hbd, h⟩ := bit_edge hb;have hd := hD j o hj ho e he hbd;rcases h with rfl | ⟨hlt, h⟩
    · exact hd
    · exact ih _ hlt k hd h
theorem count_drop {p p' : Nat → Bool} {i : Nat} (hp : p i = true) (hp' : p' i = false) (h : ∀ j, j ≠ i → p' j = p j) : ∀ (l : List Nat), l.Nodup → i ∈ l → (l.filter p).length = (l.filter p').length + 1
  | [], _, hm => by cases hm
  | a :: l, hn, hm => by
    obtain ⟨hn1, hn2⟩ := List.nodup_cons.1 hn;by_cases ha : a = i
    · subst ha
      rw [List.filter_cons_of_pos hp, List.filter_cons_of_neg (by simp [hp'])];simp only [List.length_cons];congr 1
      congr 1
      refine List.filter_congr fun x hx => ?_
      rw [h x];rintro rfl; exact hn1 hx
    · have hm' : i ∈ l := by
        rcases List.mem_cons.1 hm with h | h
        · exact absurd h.symm ha
        · exact h
      have := count_drop hp hp' h l hn2 hm';have hpa := h a ha;cases hq : p a with
      | true =>
        rw [List.filter_cons_of_pos hq, List.filter_cons_of_pos (by rw [hpa]; exact hq)];simp only [List.length_cons];omega
      | false =>
        rw [List.filter_cons_of_neg (by simp [hq]), List.filter_cons_of_neg (by rw [hpa]; simp [hq])];exact this
def left (n : Nat) (listed : Array Bool) : Nat := ((List.range n).filter fun i => !listed.getD i true).length
theorem left_set {n : Nat} {listed : Array Bool} (hs : listed.size = n) {i : Nat} (hi : i < n) (hu : listed.getD i true = false) : left n listed = left n (listed.setIfInBounds i true) + 1 := by
 refine count_drop (i := i) (by simp [hu]) ?_ ?_ _ List.nodup_range Z1z
 ·simp [Array.getD, hs, hi]
 ·intro j hj;by_cases hjs : j < listed.size
  ·simp [Array.getD, hjs, Ne.symm hj]
  ·simp [Array.getD, hjs]
theorem left_zero {n : Nat} {listed : Array Bool} (h : left n listed = 0) {i : Nat} (hi : i < n) : listed.getD i true = true := by
 unfold left at h;rw [List.length_eq_zero_iff, List.filter_eq_nil_iff] at h;have := h i Z1z;simpa using this
theorem ready_some {ops : Array Oper} (hok : drawOk ops = true) {listed : Array Bool} (hs : listed.size = ops.size) {n : Nat} (h : left ops.size listed = n + 1) : Region.ready .any ops listed ≠ [] := by
  obtain ⟨i, hi, hu, hmin⟩ : ∃ i, i < ops.size ∧ listed.getD i true = false ∧ ∀ j, j < i → listed.getD j true = true := by
    have hex : ∃ i, i < ops.size ∧ listed.getD i true = false := by
      have : (List.range ops.size).filter (fun i => !listed.getD i true) ≠ [] := by
        intro he;unfold left at h;rw [he] at h;cases h
      obtain ⟨i, hi⟩ := List.exists_mem_of_ne_nil _ this;rw [List.mem_filter] at hi;exact ⟨i, by simpa using hi.1, by simpa using hi.2⟩
    obtain ⟨i0, h0⟩ := hex;induction i0 using Nat.strongRecOn with
    | _ i0 ih =>
      by_cases hq : ∃ j, j < i0 ∧ listed.getD j true = false
      · obtain ⟨j, hj, hju⟩ := hq
        exact ih j hj ⟨Z4, hju⟩
      · refine ⟨i0, h0.1, h0.2, fun j hj => ?_⟩
        cases hb : listed.getD j true with
        | true => rfl
        | false => exact absurd ⟨j, hj, hb⟩ hq
  have : i ∈ Region.ready .any ops listed := by
    unfold Region.ready;rw [List.mem_filter];refine ⟨Z1z, ?_⟩;have ho : ops[i]? = some ops[i] := by simp [hi]
    rw [Bool.and_eq_true];refine ⟨by simp [hu], ?_⟩;rw [ho];simp only [Option.map_some, Option.getD_some, Array.all_eq_true'];intro e he;cases hb : Region.binds .any e with
    | false => rfl
    | true =>
      have hlt := drawOk_edge hok ho e he hb;have hl := hmin _ hlt;have hsz : e.on < listed.size := Z4
      have : listed.getD e.on false = listed.getD e.on true := by simp [Array.getD, hsz]
      simp [this, hl]
  intro he;rw [he] at this;cases this
theorem ready_mem {ops : Array Oper} {listed : Array Bool} (_hs : listed.size = ops.size) {i : Nat} (h : i ∈ Region.ready .any ops listed) : ∃ o, ops[i]? = some o ∧ i < ops.size ∧ listed.getD i true = false ∧ ∀ e ∈ o.after, Region.binds .any e = true → listed.getD e.on false = true := by
 unfold Region.ready at h;rw [List.mem_filter] at h;obtain ⟨h1, h2⟩ := h;have hi : i < ops.size := Z1e
 have ho : ops[i]? = some ops[i] := by simp [hi]
 rw [Bool.and_eq_true, ho] at h2;simp only [Option.map_some, Option.getD_some, Array.all_eq_true'] at h2;refine ⟨ops[i], ho, hi, by simpa using h2.1, fun e he hb => ?_⟩;have := h2.2 e he;rw [hb] at this;simpa using this
end Go.Ai