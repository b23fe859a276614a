/-
  A region in the text's order: what it passes through, and what was checked of it.
-/
import Derived.Test.YtfnbgfmmlgbfjaaGreatDoorAiPure
import Derived.Orders
namespace Go.Ai

mutual
theorem veq_eq : ∀ (a b : Value), veq a b = true → a = b
  | .bool a, b, h => by cases b <;> simp_all [veq]
  | .int k a, b, h => by cases b <;> simp_all [veq]
  | .float k a, b, h => by cases b <;> simp_all [veq]
  | .complex k a c, b, h => by cases b <;> simp_all [veq]
  | .string a, b, h => by cases b <;> simp_all [veq]
  | .pointer a, b, h => by cases b <;> simp_all [veq]
  | .slice a n c, b, h => by cases b <;> simp_all [veq]
  | .map a, b, h => by cases b <;> simp_all [veq]
  | .chan a, b, h => by cases b <;> simp_all [veq]
  | .func f a c, b, h => by
    cases b <;> simp only [veq, Bool.and_eq_true, decide_eq_true_eq, Bool.false_eq_true] at h
    rw [h.1.1, veqA_eq a _ h.1.2, veqA_eq c _ h.2]
  | .nilFunc, b, h => by cases b <;> simp_all [veq]
  | .iface t x, b, h => by
    cases b <;> simp only [veq, Bool.and_eq_true, decide_eq_true_eq, Bool.false_eq_true] at h
    rw [h.1, veq_eq x _ h.2]
  | .nilIface, b, h => by cases b <;> simp_all [veq]
  | .agg a, b, h => by
    cases b <;> simp only [veq, Bool.false_eq_true] at h
    rw [veqA_eq a _ h]
  | .tuple a, b, h => by
    cases b <;> simp only [veq, Bool.false_eq_true] at h
    rw [veqA_eq a _ h]
theorem veqA_eq : ∀ (a b : Array Value), veqA a b = true → a = b
  | ⟨a⟩, ⟨b⟩, h => by rw [veqA] at h; rw [veqL_eq a b h]
theorem veqL_eq : ∀ (a b : List Value), veqL a b = true → a = b
  | [], [], _ => rfl
  | [], _ :: _, h => by simp [veqL] at h
  | _ :: _, [], h => by simp [veqL] at h
  | x :: xs, y :: ys, h => by
    simp only [veqL, Bool.and_eq_true] at h
    rw [veq_eq x y h.1, veqL_eq xs ys h.2]
end

section
variable (C : Cfg) (rc : Rec) (ops : Array Oper) (e0 : Env) (s0 : St)

def tr : Nat → Env × St
  | 0 => (e0, s0)
  | i + 1 =>
    match ops[i]? with
    | none => tr i
    | some o =>
      if Region.wanted o (yieldedV ops (tr i).1) = true then
        match oneOp C rc (tr i).1 (tr i).2 o.op with
        | .ret x => ((tr i).1.dst o.dst x.1, x.2)
        | _ => tr i
      else ((tr i).1.dst o.dst undef, (tr i).2)

def Bit (i k : Nat) : Prop := ((Region.before ops).getD i 0).testBit k = true

/-- an operation that does more than look -/
def Eff (k : Nat) : Prop := ∃ o, ops[k]? = some o ∧ Region.wanted o (yieldedV ops (tr C rc ops e0 s0 k).1) = true ∧ ¬ opClass C o.op < 3

def Fact (i : Nat) : Prop :=
  ∀ o, ops[i]? = some o → Region.wanted o (yieldedV ops (tr C rc ops e0 s0 i).1) = true →
    ∃ v s', oneOp C rc (tr C rc ops e0 s0 i).1 (tr C rc ops e0 s0 i).2 o.op = .ret (v, s') ∧
      (opClass C o.op = 2 → ∀ k, k < i → Eff C rc ops e0 s0 k → Bit ops i k ∨ sameAgain C o.op (tr C rc ops e0 s0 i).1 (tr C rc ops e0 s0 k).2 v = true) ∧
      (¬ opClass C o.op < 3 → (∀ k, k < i → Eff C rc ops e0 s0 k → Bit ops i k) ∧
        ∀ k p vk sk, k < i → ops[k]? = some p → Region.wanted p (yieldedV ops (tr C rc ops e0 s0 k).1) = true → opClass C p.op = 2 → oneOp C rc (tr C rc ops e0 s0 k).1 (tr C rc ops e0 s0 k).2 p.op = .ret (vk, sk) →
          Bit ops i k ∨ sameAgain C p.op (tr C rc ops e0 s0 k).1 s' vk = true)

def LogOk (i : Nat) (L : Log) : Prop :=
  (∀ k, k < i → Eff C rc ops e0 s0 k → (k, (tr C rc ops e0 s0 k).2, (tr C rc ops e0 s0 (k + 1)).2) ∈ L.effects) ∧
  ∀ k p vk sk, k < i → ops[k]? = some p → Region.wanted p (yieldedV ops (tr C rc ops e0 s0 k).1) = true → opClass C p.op = 2 → oneOp C rc (tr C rc ops e0 s0 k).1 (tr C rc ops e0 s0 k).2 p.op = .ret (vk, sk) →
    (k, p.op, (tr C rc ops e0 s0 k).1, vk) ∈ L.reads

variable {C rc ops e0 s0}

theorem tr_run {i : Nat} {o : Oper} (ho : ops[i]? = some o) (hw : Region.wanted o (yieldedV ops (tr C rc ops e0 s0 i).1) = true) {v : Value} {s' : St} (h : oneOp C rc (tr C rc ops e0 s0 i).1 (tr C rc ops e0 s0 i).2 o.op = .ret (v, s')) :
    tr C rc ops e0 s0 (i + 1) = ((tr C rc ops e0 s0 i).1.dst o.dst v, s') := by
  rw [tr]
  simp only [ho]
  rw [if_pos hw, h]
theorem tr_skip {i : Nat} {o : Oper} (ho : ops[i]? = some o) (hw : ¬ Region.wanted o (yieldedV ops (tr C rc ops e0 s0 i).1) = true) :
    tr C rc ops e0 s0 (i + 1) = ((tr C rc ops e0 s0 i).1.dst o.dst undef, (tr C rc ops e0 s0 i).2) := by
  rw [tr]
  simp only [ho]
  rw [if_neg hw]

theorem lt_succ_cases {k i : Nat} (h : k < i + 1) : k < i ∨ k = i := by omega

theorem draw_facts {Q : Env × St → Prop} : ∀ (l : List Oper) (i : Nat) (L : Log), ops.toList.drop i = l → i ≤ ops.size → LogOk C rc ops e0 s0 i L →
    (execDraw C rc ops (Region.before ops) i l L (tr C rc ops e0 s0 i).1 (tr C rc ops e0 s0 i).2).All Q →
    (∀ j, i ≤ j → j < ops.size → Fact C rc ops e0 s0 j) ∧ execDraw C rc ops (Region.before ops) i l L (tr C rc ops e0 s0 i).1 (tr C rc ops e0 s0 i).2 = .ret (tr C rc ops e0 s0 ops.size) ∧ Q (tr C rc ops e0 s0 ops.size)
  | [], i, L, hl, hi, hL, h => by
    have : i = ops.size := by
      have := congrArg List.length hl
      simp at this
      omega
    subst this
    exact ⟨fun j h1 h2 => absurd h1 (by omega), rfl, h⟩
  | o :: r, i, L, hl, hi, hL, h => by
    have hlt : i < ops.size := by
      have := congrArg List.length hl
      simp at this
      omega
    have ho : ops[i]? = some o := by
      have h1 : (ops.toList.drop i)[0]? = some o := by rw [hl]; rfl
      rw [List.getElem?_drop] at h1
      simpa using h1
    have hr : ops.toList.drop (i + 1) = r := by
      have : (ops.toList.drop i).drop 1 = r := by rw [hl]; rfl
      rw [List.drop_drop] at this
      exact this
    have noeff : ∀ {k : Nat}, k = i → (Region.wanted o (yieldedV ops (tr C rc ops e0 s0 i).1) = true → opClass C o.op < 3) → ¬ Eff C rc ops e0 s0 k := by
      rintro k rfl hc ⟨p, hp, hw, hcp⟩
      rw [ho] at hp
      obtain rfl := Option.some.inj hp
      exact hcp (hc hw)
    unfold execDraw at h ⊢
    by_cases hw : Region.wanted o (yieldedV ops (tr C rc ops e0 s0 i).1) = true
    · rw [if_pos hw] at h ⊢
      cases hop : oneOp C rc (tr C rc ops e0 s0 i).1 (tr C rc ops e0 s0 i).2 o.op with
      | fail => rw [hop] at h; exact h.elim
      | ask n k => rw [hop] at h; exact h.elim
      | ret x =>
        obtain ⟨v, s'⟩ := x
        rw [hop] at h
        have htr := tr_run ho hw hop
        dsimp only at h ⊢
        have fin : ∀ L', LogOk C rc ops e0 s0 (i + 1) L' → (execDraw C rc ops (Region.before ops) (i + 1) r L' ((tr C rc ops e0 s0 i).1.dst o.dst v) s').All Q →
            ((opClass C o.op = 2 → ∀ k, k < i → Eff C rc ops e0 s0 k → Bit ops i k ∨ sameAgain C o.op (tr C rc ops e0 s0 i).1 (tr C rc ops e0 s0 k).2 v = true) ∧
            (¬ opClass C o.op < 3 → (∀ k, k < i → Eff C rc ops e0 s0 k → Bit ops i k) ∧
              ∀ k p vk sk, k < i → ops[k]? = some p → Region.wanted p (yieldedV ops (tr C rc ops e0 s0 k).1) = true → opClass C p.op = 2 → oneOp C rc (tr C rc ops e0 s0 k).1 (tr C rc ops e0 s0 k).2 p.op = .ret (vk, sk) →
                Bit ops i k ∨ sameAgain C p.op (tr C rc ops e0 s0 k).1 s' vk = true)) →
            (∀ j, i ≤ j → j < ops.size → Fact C rc ops e0 s0 j) ∧ execDraw C rc ops (Region.before ops) (i + 1) r L' ((tr C rc ops e0 s0 i).1.dst o.dst v) s' = .ret (tr C rc ops e0 s0 ops.size) ∧ Q (tr C rc ops e0 s0 ops.size) := by
          intro L' hL' hall hchk
          have hall' : (execDraw C rc ops (Region.before ops) (i + 1) r L' (tr C rc ops e0 s0 (i + 1)).1 (tr C rc ops e0 s0 (i + 1)).2).All Q := by rw [htr]; exact hall
          obtain ⟨h1, h2, h3⟩ := draw_facts r (i + 1) L' hr hlt hL' hall'
          rw [htr] at h2
          refine ⟨fun j hj hjs => ?_, h2, h3⟩
          by_cases hji : j = i
          · subst hji
            intro p hp _
            rw [ho] at hp
            obtain rfl := Option.some.inj hp
            exact ⟨v, s', hop, hchk⟩
          · exact h1 j (by omega) hjs
        have hcl : opClass C o.op = 0 ∨ opClass C o.op = 1 ∨ opClass C o.op = 2 ∨ ¬ opClass C o.op < 3 := by omega
        have low : opClass C o.op < 3 → opClass C o.op ≠ 2 → LogOk C rc ops e0 s0 (i + 1) L := fun hc hn => by
          refine ⟨fun k hk he => ?_, fun k p vk sk hk hp hpw hpc hpo => ?_⟩
          · rcases lt_succ_cases hk with hk | rfl
            · exact hL.1 k hk he
            · exact absurd he (noeff rfl fun _ => hc)
          · rcases lt_succ_cases hk with hk | rfl
            · exact hL.2 k p vk sk hk hp hpw hpc hpo
            · rw [ho] at hp
              obtain rfl := Option.some.inj hp
              exact absurd hpc hn
        rcases hcl with hc | hc | hc | hc
        · simp only [hc] at h ⊢
          exact fin L (low (by omega) (by omega)) h ⟨fun h2 => by omega, fun h3 => by omega⟩
        · simp only [hc] at h ⊢
          exact fin L (low (by omega) (by omega)) h ⟨fun h2 => by omega, fun h3 => by omega⟩
        · simp only [hc] at h ⊢
          split at h
          · rename_i hck
            rw [if_pos hck]
            rw [List.all_eq_true] at hck
            refine fin _ ⟨fun k hk he => ?_, fun k p vk sk hk hp hpw hpc hpo => ?_⟩ h ⟨fun _ k hk he => ?_, fun h3 => by omega⟩
            · rcases lt_succ_cases hk with hk | rfl
              · exact hL.1 k hk he
              · exact absurd he (noeff rfl fun _ => by omega)
            · rcases lt_succ_cases hk with hk | rfl
              · exact List.mem_cons_of_mem _ (hL.2 k p vk sk hk hp hpw hpc hpo)
              · rw [ho] at hp
                obtain rfl := Option.some.inj hp
                rw [hop] at hpo
                obtain ⟨rfl, rfl⟩ := by simpa using hpo
                exact List.mem_cons_self ..
            · have := hck _ (hL.1 k hk he)
              rw [Bool.or_eq_true] at this
              exact this
          · exact h.elim
        · obtain ⟨n, hn⟩ : ∃ n, opClass C o.op = n + 3 := ⟨opClass C o.op - 3, by omega⟩
          simp only [hn] at h ⊢
          split at h
          · rename_i hck
            rw [if_pos hck]
            rw [Bool.and_eq_true, List.all_eq_true, List.all_eq_true] at hck
            refine fin _ ⟨fun k hk he => ?_, fun k p vk sk hk hp hpw hpc hpo => ?_⟩ h ⟨fun h2 => by omega, fun _ => ⟨fun k hk he => ?_, fun k p vk sk hk hp hpw hpc hpo => ?_⟩⟩
            · rcases lt_succ_cases hk with hk | rfl
              · exact List.mem_cons_of_mem _ (hL.1 k hk he)
              · rw [htr]; exact List.mem_cons_self ..
            · rcases lt_succ_cases hk with hk | rfl
              · exact hL.2 k p vk sk hk hp hpw hpc hpo
              · rw [ho] at hp
                obtain rfl := Option.some.inj hp
                omega
            · exact hck.1 _ (hL.1 k hk he)
            · have := hck.2 _ (hL.2 k p vk sk hk hp hpw hpc hpo)
              rw [Bool.or_eq_true] at this
              exact this
          · exact h.elim
    · rw [if_neg hw] at h ⊢
      have htr := tr_skip ho hw
      have hL' : LogOk C rc ops e0 s0 (i + 1) L := by
        refine ⟨fun k hk he => ?_, fun k p vk sk hk hp hpw hpc hpo => ?_⟩
        · rcases lt_succ_cases hk with hk | rfl
          · exact hL.1 k hk he
          · exact absurd he (noeff rfl fun h => absurd h hw)
        · rcases lt_succ_cases hk with hk | rfl
          · exact hL.2 k p vk sk hk hp hpw hpc hpo
          · rw [ho] at hp
            obtain rfl := Option.some.inj hp
            exact absurd hpw hw
      have hall' : (execDraw C rc ops (Region.before ops) (i + 1) r L (tr C rc ops e0 s0 (i + 1)).1 (tr C rc ops e0 s0 (i + 1)).2).All Q := by rw [htr]; exact h
      obtain ⟨h1, h2, h3⟩ := draw_facts r (i + 1) L hr hlt hL' hall'
      rw [htr] at h2
      refine ⟨fun j hj hjs => ?_, h2, h3⟩
      by_cases hji : j = i
      · subst hji
        intro p hp hpw
        rw [ho] at hp
        obtain rfl := Option.some.inj hp
        exact absurd hpw hw
      · exact h1 j (by omega) hjs

end
end Go.Ai
