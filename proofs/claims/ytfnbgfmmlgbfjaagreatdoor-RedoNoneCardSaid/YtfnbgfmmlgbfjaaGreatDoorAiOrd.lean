/-
  What code must be like; the operations of a region in the text's order.
-/
import Derived.Test.YtfnbgfmmlgbfjaaGreatDoorAiSim1
namespace Go.Ai

/-! ### what code must be like -/
def tmpOf : Operand → Option Nat
  | .tmp t => some t
  | _ => none
def guardTmp (ops : Array Oper) (o : Oper) : Option Nat :=
  match o.guard with
  | some (g, _) => (ops[g]?).bind (·.dst)
  | none => none
/-- it looks at the slot 'd' -/
def looks (ops : Array Oper) (o : Oper) (d : Nat) : Bool :=
  o.op.operands.toList.any (fun x => match x with | .tmp t => Nat.beq t d | _ => false) || (match guardTmp ops o with | some t => Nat.beq t d | none => false)
def looksD (ops : Array Oper) (o : Oper) : Option Nat → Bool
  | some d => looks ops o d
  | none => false
def sameDst : Option Nat → Option Nat → Bool
  | some a, some b => Nat.beq a b
  | _, _ => false
def clash (ops : Array Oper) (p o : Oper) : Bool := looksD ops o p.dst || looksD ops p o.dst || sameDst p.dst o.dst

def drawRow (ops : Array Oper) (o : Oper) (mask : Nat) : Nat → List Oper → Bool
  | _, [] => true
  | i, p :: r => (mask.testBit i || !clash ops p o) && drawRow ops o mask (i + 1) r
def drawRows (ops : Array Oper) (b : Array Nat) : Nat → List Oper → Bool
  | _, [] => true
  | j, o :: r => (o.after.all fun e => !Region.binds .any e || Nat.blt e.on j) && drawRow ops o (b.getD j 0) 0 (ops.toList.take j) && drawRows ops b (j + 1) r
def drawOk (ops : Array Oper) : Bool := drawRows ops (Region.before ops) 0 ops.toList

def opOk (G : Nat) (o : Oper) : Bool := o.op.operands.all (okx G) && notDefer o.op

def okc (G : Nat) : Code → Bool
  | .skip | .label _ | .exit _ | .ret | .goto _ | .refuse _ => true
  | .region _ ops d => ops.all (opOk G) && (!d || drawOk ops)
  | .seq a b => okc G a && okc G b
  | .cond c a b => okx G c && okc G a && okc G b
  | .block _ c | .loop c | .scope c => okc G c
  | .rangeFunc f _ a c => okx G f && okc G a && okc G c

def okK (G : Nat) (c : Code) : Prop := okc G c = true

theorem drawRow_at {ops : Array Oper} {o : Oper} {mask : Nat} : ∀ {l : List Oper} {i : Nat}, drawRow ops o mask i l = true → ∀ k p, l[k]? = some p → mask.testBit (i + k) = true ∨ clash ops p o = false
  | [], i, _, k, p, hk => by simp at hk
  | q :: r, i, h, k, p, hk => by
    simp only [drawRow, Bool.and_eq_true, Bool.or_eq_true, Bool.not_eq_true'] at h
    cases k with
    | zero => simp at hk; subst hk; exact h.1
    | succ k =>
      have := drawRow_at h.2 k p (by simpa using hk)
      rwa [show i + 1 + k = i + (k + 1) from by omega] at this
theorem drawRows_at {ops : Array Oper} {b : Array Nat} : ∀ {l : List Oper} {j : Nat}, drawRows ops b j l = true → ∀ k o, l[k]? = some o →
    (∀ e ∈ o.after, Region.binds .any e = true → e.on < j + k) ∧ drawRow ops o (b.getD (j + k) 0) 0 (ops.toList.take (j + k)) = true
  | [], j, _, k, o, hk => by simp at hk
  | q :: r, j, h, k, o, hk => by
    simp only [drawRows, Bool.and_eq_true] at h
    cases k with
    | zero =>
      simp at hk; subst hk
      refine ⟨fun e he hb => ?_, h.1.2⟩
      have := Array.all_eq_true'.1 h.1.1 e he
      simp [hb] at this
      simpa [Nat.blt_eq] using this
    | succ k =>
      have := drawRows_at h.2 k o (by simpa using hk)
      rwa [show j + 1 + k = j + (k + 1) from by omega] at this
theorem drawOk_edge {ops : Array Oper} (h : drawOk ops = true) {j : Nat} {o : Oper} (ho : ops[j]? = some o) : ∀ e ∈ o.after, Region.binds .any e = true → e.on < j := by
  have := (drawRows_at h j o (by simpa using ho)).1
  simpa using this
theorem drawOk_clash {ops : Array Oper} (h : drawOk ops = true) {i j : Nat} (hij : i < j) {p o : Oper} (hp : ops[i]? = some p) (ho : ops[j]? = some o) :
    ((Region.before ops).getD j 0).testBit i = true ∨ clash ops p o = false := by
  have h1 := (drawRows_at h j o (by simpa using ho)).2
  have := drawRow_at h1 i p (by rw [Nat.zero_add, List.getElem?_take_of_lt hij]; simpa using hp)
  simpa using this

/-! ### guards -/
section
variable {P : Program} {C : Cfg} {β : Bij} {own : Nat → Option Nat} {s : St} {w : World} {G : Nat}

theorem VR.bool_iff {v v' : Value} (h : VR β v v') (b : Bool) : v = .bool b ↔ v' = .bool b := by
  constructor
  · rintro rfl; exact bool_inv h
  · rintro rfl
    cases h with
    | bool => rfl
    | junk _ h => cases h

theorem wanted_sim {ops : Array Oper} {o : Oper} {e : Env} {t : Array Value} (h : ∀ d, guardTmp ops o = some d → VR β (e.get d) (t.getD d undef)) :
    Region.wanted o (yieldedV ops e) = Region.wanted o (yielded ops t) := by
  unfold Region.wanted
  cases hg : o.guard with
  | none => rfl
  | some x =>
    obtain ⟨g, b⟩ := x
    simp only
    congr 1
    unfold yieldedV yielded
    simp only [guardTmp, hg] at h
    cases hd : (ops[g]?).bind (·.dst) with
    | none => rfl
    | some d =>
      have hv := h d hd
      simp only [Option.bind_some]
      have ht : t.getD d undef = (t[d]?).getD undef := by
        by_cases hq : d < t.size <;> simp [Array.getD, hq]
      rw [ht] at hv
      cases htd : t[d]? with
      | none =>
        rw [htd] at hv
        have : ∀ b, e.get d ≠ .bool b := fun b hb => by
          have := (hv.bool_iff b).1 hb
          simp [undef] at this
        split
        · rename_i b hb; exact absurd hb (this b)
        · rfl
      | some v =>
        rw [htd] at hv
        simp only [Option.getD_some] at hv
        split
        · rename_i b hb
          have := (hv.bool_iff b).1 hb
          subst this; rfl
        · rename_i hb
          split
          · rename_i b hb'
            have := Option.some.inj hb'
            exact absurd ((hv.bool_iff b).2 this) (hb b)
          · rfl

theorem rho_all (hG : Glob β G) {e : Env} {t : Array Value} (he : ER β e t) : ∀ x, okx G x = true → VR β (e.eval x) (feval t x) := by
  intro x hx
  cases x with
  | tmp j => exact he.get j
  | const v => exact litOk_self β hx
  | global g => exact hG.ptr (by simpa [okx] using hx)
  | func f => exact .func (.same _ (by intro l; simp)) .nil .nil

theorem ER.dst {e : Env} {t : Array Value} (h : ER β e t) (d : Option Nat) {v v' : Value} (hv : VR β v v') : ER β (e.dst d v) (dstAt t d v') := by
  cases d with
  | none => exact h
  | some j => exact h.put j hv

/-! ### answers -/
theorem all_has {α : Type} {Q Q' : α → Prop} : ∀ {m : M α}, (∀ a, m.Has a → Q a → Q' a) → m.All Q → m.All Q'
  | .ret a, h, hq => h a (.ret a) hq
  | .fail, _, hq => hq
  | .ask _ _, h, hq => ⟨hq.1, fun i hi => all_has (fun a ha => h a (.ask hi ha)) (hq.2 i hi)⟩

theorem free_bind {α γ : Type} {m : M α} {f : α → M γ} {sa : α → St} {sc : γ → St} (h : (m.bind f).All fun x => Free β s (sc x)) (hg : ∀ a, m.Has a → ∀ x, (f a).Has x → (sa a).n ≤ (sc x).n) :
    m.All fun a => Free β s (sa a) := by
  rw [M.all_bind] at h
  refine all_has (fun a ha hq => ?_) h
  obtain ⟨x, hx⟩ := M.All.some hq
  exact (hq.has hx).left (hg a ha x hx)

theorem free_next {α : Type} {β' : Bij} {own' : Nat → Option Nat} {s' : St} {w' : World} (e : Ext β own s w β' own' s' w') {m : M α} {sa : α → St} (h : m.All fun a => Free β s (sa a)) : m.All fun a => Free β' s' (sa a) :=
  h.mono fun _ hq => hq.right e

/-! ### a region in the text's order -/
def OpsSim (P : Program) (K : Code → Prop) (β : Bij) (own : Nat → Option Nat) (s : St) (w : World) (m : M (Env × St)) (b : Frame) (ops : Array Oper) (is : List Nat) (t : Array Value) : Prop :=
  ∃ e' s' β' own' w' t', m.Has (e', s') ∧ s'.WF ∧ Ext β own s w β' own' s' w' ∧ SR K β' own' s'.get w' ∧ ER β' e' t' ∧
    ∀ ds k cs, Steps P (lone (fgo b t ds (.inRegion ops is :: k)) cs w) (lone (fgo b t' ds (.inRegion ops [] :: k)) cs w')

theorem execOps_sim {K : Code → Prop} (H : CfgOk P C K) {rc : Rec} (hrg : RecGrow rc) (hc : CallSim P K G rc) (hr : RoundSim P K G rc) (b : Frame) {ops : Array Oper} : ∀ (l : List Oper) (is : List Nat) (β : Bij) (own : Nat → Option Nat) (s : St) (w : World) (e : Env) (t : Array Value),
    is.map (ops[·]?) = l.map some → l.all (opOk G) = true → SR K β own s.get w → s.WF → Glob β G → ER β e t → (execOps C rc ops l e s).All (fun x => Free β s x.2) →
    OpsSim P K β own s w (execOps C rc ops l e s) b ops is t
  | [], is, β, own, s, w, e, t, hl, hok, hs, hw, hG, he, hf => by
    have : is = [] := by simpa using hl
    subst this
    exact ⟨e, s, β, own, w, t, .ret _, hw, .refl .., hs, he, fun _ _ _ => .refl _ _⟩
  | o :: r, is, β, own, s, w, e, t, hl, hok, hs, hw, hG, he, hf => by
    obtain ⟨i, is, rfl⟩ : ∃ i js, is = i :: js := by
      cases is with
      | nil => simp at hl
      | cons i js => exact ⟨i, js, rfl⟩
    simp only [List.map_cons, List.cons.injEq] at hl
    obtain ⟨ho, hl⟩ := hl
    simp only [List.all_cons, Bool.and_eq_true] at hok
    obtain ⟨hok1, hok2⟩ := hok
    have hok1' := hok1
    simp only [opOk, Bool.and_eq_true] at hok1
    have hwt := wanted_sim (β := β) (ops := ops) (o := o) (e := e) (t := t) (fun d _ => he.get d)
    unfold execOps at hf ⊢
    by_cases hwn : Region.wanted o (yieldedV ops e) = true
    · rw [if_pos hwn] at hf ⊢
      have hf1 : (oneOp C rc e s o.op).All fun x => Free β s x.2 := free_bind hf fun a ha x hx =>
        (grow_execOps hrg r _ _ (grow_oneOp hrg hw ha).2 x hx).1.n
      obtain ⟨v, s1, β1, own1, w1, v1, h1, h2, h3, h4, h5⟩ := oneOp_sim H hc hr hs hw hG (rho_all hG he) hok1.1 hok1.2 hf1
      rw [M.all_bind] at hf
      have hf2 := free_next h2 (hf.has h1)
      have hw1 := (grow_oneOp hrg hw h1).2
      obtain ⟨e2, s2, β2, own2, w2, t2, q1, qw, q2, q3, q4, q5⟩ := execOps_sim H hrg hc hr b r is β1 own1 s1 w1 _ _ hl hok2 h3 hw1 (hG.mono h2.le) ((he.mono h2.le).dst o.dst h4) hf2
      exact ⟨e2, s2, β2, own2, w2, t2, h1.bind q1, qw, h2.trans q2, q3, q4, fun ds k cs => (h5 b ds k cs ops i is ho (hwt ▸ hwn)).trans (q5 ds k cs)⟩
    · rw [if_neg hwn] at hf ⊢
      have hwn' : Region.wanted o (yielded ops t) = false := by rw [← hwt]; simpa using hwn
      obtain ⟨e2, s2, β2, own2, w2, t2, q1, qw, q2, q3, q4, q5⟩ := execOps_sim H hrg hc hr b r is β own s w _ _ hl hok2 hs hw hG (he.dst o.dst (.undef β)) hf
      exact ⟨e2, s2, β2, own2, w2, t2, q1, qw, q2, q3, q4, fun ds k cs => .head (st_opSkip ho hwn') (q5 ds k cs)⟩

theorem range_ops (ops : Array Oper) : (List.range ops.size).map (ops[·]?) = ops.toList.map some := by
  apply List.ext_getElem?
  intro i
  rw [List.getElem?_map, List.getElem?_map]
  by_cases h : i < ops.size
  · rw [List.getElem?_range h]; simp [h]
  · rw [List.getElem?_eq_none (by simpa using h)]; simp [h]

/-- a region whose order is drawn -/
def DrawSim (P : Program) (C : Cfg) (K : Code → Prop) (G : Nat) : Prop :=
  ∀ (rc : Rec), RecGrow rc → CallSim P K G rc → RoundSim P K G rc → ∀ (b : Frame) (ops : Array Oper), drawOk ops = true → ops.all (opOk G) = true →
    ∀ (β : Bij) (own : Nat → Option Nat) (s : St) (w : World) (e : Env) (t : Array Value) (tt : Nat), SR K β own s.get w → s.WF → Glob β G → ER β e t → (execDraw C rc ops (Region.before ops) 0 ops.toList ⟨[], []⟩ e s).All (fun x => Free β s x.2) →
    OpsSim P K β own s w (execDraw C rc ops (Region.before ops) 0 ops.toList ⟨[], []⟩ e s) b ops (Region.linearise .any ops tt) t

end
end Go.Ai
