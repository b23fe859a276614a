/-
  A region whose order is drawn: whatever order, it stands for the text's order.
-/
import Derived.Test.YtfnbgfmmlgbfjaaGreatDoorAiOrder
namespace Go.Ai

structure DX where
  C : Cfg
  rc : Rec
  ops : Array Oper
  e0 : Env
  s0 : St
def DX.E (X : DX) (i : Nat) : Env := (tr X.C X.rc X.ops X.e0 X.s0 i).1
def DX.S (X : DX) (i : Nat) : St := (tr X.C X.rc X.ops X.e0 X.s0 i).2
def DX.eff (X : DX) (k : Nat) : Prop := Eff X.C X.rc X.ops X.e0 X.s0 k
def DX.m (X : DX) : Nat := X.ops.size

structure DX.Good (X : DX) (G : Nat) : Prop where
  drawOk : drawOk X.ops = true
  opsOk : X.ops.all (opOk G) = true
  grow : RecGrow X.rc
  wf0 : X.s0.WF
  fact : ∀ j, j < X.m → Fact X.C X.rc X.ops X.e0 X.s0 j

section
variable {X : DX} {G : Nat} (hX : X.Good G)

theorem dx_op {i : Nat} (h : i < X.m) : ∃ o, X.ops[i]? = some o := ⟨X.ops[i]'h, Array.getElem?_eq_getElem h⟩
theorem op_lt {i : Nat} {o : Oper} (h : X.ops[i]? = some o) : i < X.m := by
  by_cases hi : i < X.ops.size
  · exact hi
  · rw [Array.getElem?_eq_none (by omega)] at h; cases h

/-- an operation that looks at memory leaves it alone -/
theorem eval_look {C : Cfg} {s s' : St} {ρ : Operand → Value} {o : Op} (hc : opClass C o = 2) {v : Value} (hv : evalOp C ρ s o = some (v, s')) : s' = s := by
  have map_ : ∀ {x : Option Value}, (x.map fun v => (v, s)) = some (v, s') → s' = s := by
    intro x h
    rw [Option.map_eq_some_iff] at h
    obtain ⟨r, _, e⟩ := h
    exact (Prod.mk.inj e).2.symm
  cases o with
  | binOp a b c d e => exact map_ hv
  | load a b => exact map_ hv
  | lookup a b c d => exact map_ hv
  | convert a b x =>
    exfalso
    simp only [opClass] at hc
    split at hc <;> simp at hc
  | call c =>
    obtain ⟨callee, args, ts⟩ := c
    cases callee with
    | builtin b =>
      simp only [evalOp, builtinV] at hv
      split at hv
      · exact map_ hv
      · simp [opClass] at hc
      · simp [opClass] at hc
      · simp [opClass] at hc
      · exact map_ hv
      · exact map_ hv
      · cases hv
    | _ => cases hv
  | _ => simp [opClass] at hc

/-- what an operation did, in the text's order -/
inductive Did (X : DX) (i : Nat) (o : Oper) : Prop where
  | skip (hw : ¬ Region.wanted o (yieldedV X.ops (X.E i)) = true) (he : X.E (i + 1) = (X.E i).dst o.dst undef) (hs : X.S (i + 1) = X.S i)
  | low (hw : Region.wanted o (yieldedV X.ops (X.E i)) = true) (v : Value) (hc : opClass X.C o.op < 3) (hv : evalOp X.C (X.E i).eval (X.S i) o.op = some (v, X.S (i + 1))) (he : X.E (i + 1) = (X.E i).dst o.dst v)
      (hk : opClass X.C o.op = 2 → ∀ k, k < i → X.eff k → Bit X.ops i k ∨ sameAgain X.C o.op (X.E i) (X.S k) v = true)
  | high (hw : Region.wanted o (yieldedV X.ops (X.E i)) = true) (v : Value) (hc : ¬ opClass X.C o.op < 3) (hv : oneOp X.C X.rc (X.E i) (X.S i) o.op = .ret (v, X.S (i + 1))) (he : X.E (i + 1) = (X.E i).dst o.dst v)
      (hk1 : ∀ k, k < i → X.eff k → Bit X.ops i k)
      (hk2 : ∀ k p vk sk, k < i → X.ops[k]? = some p → Region.wanted p (yieldedV X.ops (X.E k)) = true → opClass X.C p.op = 2 → evalOp X.C (X.E k).eval (X.S k) p.op = some (vk, sk) → Bit X.ops i k ∨ sameAgain X.C p.op (X.E k) (X.S (i + 1)) vk = true)

include hX in
theorem did {i : Nat} {o : Oper} (ho : X.ops[i]? = some o) : Did X i o := by
  by_cases hw : Region.wanted o (yieldedV X.ops (X.E i)) = true
  · obtain ⟨v, s', h1, h2, h3⟩ := hX.fact i (op_lt ho) o ho hw
    have ht := tr_run ho hw h1
    have hE : X.E (i + 1) = (X.E i).dst o.dst v := by show (tr _ _ _ _ _ _).1 = _; rw [ht]; rfl
    have hS : X.S (i + 1) = s' := by show (tr _ _ _ _ _ _).2 = _; rw [ht]
    subst hS
    by_cases hc : opClass X.C o.op < 3
    · refine .low hw v hc ?_ hE fun hc2 => h2 hc2
      have := oneOp_low (C := X.C) (s := X.S i) (rc := X.rc) (e := X.E i) hc
      have h1' : oneOp X.C X.rc (X.E i) (X.S i) o.op = .ret (v, X.S (i + 1)) := h1
      rw [this] at h1'
      cases he : evalOp X.C (X.E i).eval (X.S i) o.op with
      | none => rw [he] at h1'; cases h1'
      | some x => rw [he] at h1'; cases h1'; rfl
    · refine .high hw v hc h1 hE (h3 hc).1 fun k p vk sk hk hp hpw hpc hpv => ?_
      refine (h3 hc).2 k p vk sk hk hp hpw hpc ?_
      have := oneOp_low (C := X.C) (s := X.S k) (rc := X.rc) (e := X.E k) (o := p.op) (by omega)
      show oneOp X.C X.rc (X.E k) (X.S k) p.op = _
      rw [this, hpv]; rfl
  · have ht := tr_skip ho hw
    exact .skip hw (by show (tr _ _ _ _ _ _).1 = _; rw [ht]; rfl) (by show (tr _ _ _ _ _ _).2 = _; rw [ht]; rfl)

theorem eff_not {i : Nat} {o : Oper} (ho : X.ops[i]? = some o) (h : Region.wanted o (yieldedV X.ops (X.E i)) = true → opClass X.C o.op < 3) : ¬ X.eff i := by
  rintro ⟨p, hp, hw, hc⟩
  rw [ho] at hp
  obtain rfl := Option.some.inj hp
  exact hc (h hw)

include hX in
theorem dx_wf : ∀ i, i ≤ X.m → (X.S i).WF
  | 0, _ => hX.wf0
  | i + 1, hi => by
    obtain ⟨o, ho⟩ := dx_op (X := X) (i := i) hi
    have hw := dx_wf i (by omega)
    cases did hX ho with
    | skip _ _ hs => rw [hs]; exact hw
    | low _ v _ hv _ _ => exact (Grow.op hv hw).2
    | high _ v _ hv _ _ _ => exact (grow_oneOp (C := X.C) hX.grow hw (x := (v, X.S (i + 1))) (by rw [hv]; exact .ret _)).2
include hX in
theorem dx_grow1 {i : Nat} (hi : i < X.m) : Grow (X.S i) (X.S (i + 1)) := by
  obtain ⟨o, ho⟩ := dx_op hi
  have hw := dx_wf hX i (by omega)
  cases did hX ho with
  | skip _ _ hs => rw [hs]; exact .refl _
  | low _ v _ hv _ _ => exact (Grow.op hv hw).1
  | high _ v _ hv _ _ _ => exact (grow_oneOp (C := X.C) hX.grow hw (x := (v, X.S (i + 1))) (by rw [hv]; exact .ret _)).1
include hX in
theorem dx_n {p q : Nat} (h : p ≤ q) (hq : q ≤ X.m) : (X.S p).n ≤ (X.S q).n := by
  induction q with
  | zero => have : p = 0 := by omega
            subst this; exact Nat.le_refl _
  | succ q ih =>
    by_cases he : p = q + 1
    · subst he; exact Nat.le_refl _
    · exact Nat.le_trans (ih (by omega) (by omega)) (dx_grow1 hX (by omega)).n
include hX in
theorem dx_same1 {i id : Nat} (hi : i < X.m) (hne : ¬ X.eff i) (hid : id < (X.S i).n) : (X.S (i + 1)).get id = (X.S i).get id := by
  obtain ⟨o, ho⟩ := dx_op hi
  cases did hX ho with
  | skip _ _ hs => rw [hs]
  | low hw v hc hv _ _ =>
    have hcl : opClass X.C o.op = 0 ∨ opClass X.C o.op = 1 ∨ opClass X.C o.op = 2 := by omega
    rcases hcl with h | h | h
    · have := eval_blind h hv (X.S i)
      rw [hv] at this
      obtain ⟨_, e⟩ := Prod.mk.inj (Option.some.inj this)
      rw [e]
    · obtain ⟨ob, e, _⟩ := eval_fresh h hv
      rw [e, St.get_new, if_neg (by omega)]
    · rw [eval_look h hv]
  | high hw v hc hv _ _ _ => exact absurd ⟨o, ho, hw, hc⟩ hne

end
end Go.Ai
