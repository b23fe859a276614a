/-
  What holds while a drawn region runs in any order.
-/
import Derived.Test.YtfnbgfmmlgbfjaaGreatDoorAiDraw
namespace Go.Ai

section
variable {X : DX} {G : Nat} (hX : X.Good G)

include hX in
theorem dx_env_n : ∀ p, p ≤ X.m → (X.E p).n = X.e0.n
  | 0, _ => rfl
  | p + 1, hp => by
    obtain ⟨o, ho⟩ := dx_op (X := X) (i := p) hp
    have ih := dx_env_n p (by omega)
    have hd : ∀ v, ((X.E p).dst o.dst v).n = X.e0.n := fun v => by cases o.dst <;> exact ih
    cases did hX ho with
    | skip _ he _ => rw [he]; exact hd _
    | low _ v _ _ he _ => rw [he]; exact hd _
    | high _ v _ _ he _ _ => rw [he]; exact hd _

theorem get_dst {e : Env} {d : Nat} {x : Option Nat} {v : Value} (h : x ≠ some d) : (e.dst x v).get d = e.get d := by
  cases x with
  | none => rfl
  | some j =>
    show (e.put j v).get d = _
    rw [Env.get_put, if_neg]
    rintro ⟨rfl, _⟩
    exact h rfl

include hX in
theorem dx_env_get {d p q : Nat} (h : p ≤ q) (hq : q ≤ X.m) (hn : ∀ j o, p ≤ j → j < q → X.ops[j]? = some o → o.dst ≠ some d) : (X.E q).get d = (X.E p).get d := by
  induction q with
  | zero => have : p = 0 := by omega
            subst this; rfl
  | succ q ih =>
    by_cases he : p = q + 1
    · subst he; rfl
    · rw [← ih (by omega) (by omega) fun j o h1 h2 => hn j o h1 (by omega)]
      obtain ⟨o, ho⟩ := dx_op (X := X) (i := q) hq
      have hd := hn q o (by omega) (by omega) ho
      cases did hX ho with
      | skip _ he _ => rw [he]; exact get_dst hd
      | low _ v _ _ he _ => rw [he]; exact get_dst hd
      | high _ v _ _ he _ _ => rw [he]; exact get_dst hd

include hX in
theorem dx_same {id p q : Nat} (h : p ≤ q) (hq : q ≤ X.m) (hid : id < (X.S p).n) (hn : ∀ r, p ≤ r → r < q → ¬ X.eff r) : (X.S q).get id = (X.S p).get id := by
  induction q with
  | zero => have : p = 0 := by omega
            subst this; rfl
  | succ q ih =>
    by_cases he : p = q + 1
    · subst he; rfl
    · rw [← ih (by omega) (by omega) fun r h1 h2 => hn r h1 (by omega)]
      exact dx_same1 hX hq (hn q (by omega) (by omega)) (Nat.lt_of_lt_of_le hid (dx_n hX (by omega) (by omega)))

structure DI (X : DX) (K : Code → Prop) (β0 : Bij) (own0 : Nat → Option Nat) (w0 : World) (D : Nat → Prop) (ver : Nat) (β : Bij) (own : Nat → Option Nat) (g : Nat → Option AObj) (w : World) (t : Array Value) : Prop where
  sr : SR K β own g w
  le : β0.le β
  down : ∀ j o, D j → X.ops[j]? = some o → ∀ e ∈ o.after, Region.binds .any e = true → D e.on
  verm : ver ≤ X.m
  verE : ∀ k, X.eff k → (D k ↔ k < ver)
  verP : ver = 0 ∨ ∃ k, ver = k + 1 ∧ X.eff k
  tsz : t.size = X.e0.n
  env : ∀ d p, p ≤ X.m → (∀ j o, X.ops[j]? = some o → o.dst = some d → (D j ↔ j < p)) → VR β ((X.E p).get d) (t.getD d undef)
  gI : ∀ id, β.dom id → ∀ p, ver ≤ p → p ≤ X.m → id < (X.S p).n → (∀ q, ver ≤ q → q < p → X.eff q → (X.S q).n ≤ id) → g id = (X.S p).get id
  gJ : ∀ id, ¬ β.dom id → ∀ p q, p ≤ q → q ≤ ver → id < (X.S p).n → (X.S q).get id = (X.S p).get id
  free : ∀ id, β.dom id → β0.dom id ∨ ∃ j, j < X.m ∧ D j ∧ (X.S j).n ≤ id ∧ id < (X.S (j + 1)).n
  size : w0.heap.size ≤ w.heap.size
  cframe : ∀ b, b < w0.heap.size → (∀ i, own0 b = some i → (X.S X.m).n ≤ i) → own b = own0 b ∧ w.heap[b]? = w0.heap[b]?
  os : w.os = w0.os
  tape : w.tape = w0.tape
  output : w.output = w0.output
  keep : ∀ i, (X.S X.m).n ≤ i → β.obj i = β0.obj i ∧ β.arr i = β0.arr i

/-- the next one -/
structure Next1 (X : DX) (D : Nat → Prop) (i : Nat) (o : Oper) : Prop where
  op : X.ops[i]? = some o
  not : ¬ D i
  edges : ∀ e ∈ o.after, Region.binds .any e = true → D e.on

variable {K : Code → Prop} {β0 : Bij} {own0 : Nat → Option Nat} {w0 : World} {D : Nat → Prop} {ver : Nat} {β : Bij} {own : Nat → Option Nat} {g : Nat → Option AObj} {w : World} {t : Array Value}
variable {i : Nat} {o : Oper}

theorem bit_i (I : DI X K β0 own0 w0 D ver β own g w t) (N : Next1 X D i o) {k : Nat} (h : Bit X.ops i k) : D k := by
  obtain ⟨p, hp, e, he, hb, h⟩ := bit_edge h
  rw [N.op] at hp
  obtain rfl := Option.some.inj hp
  have hd := N.edges e he hb
  rcases h with rfl | ⟨_, h⟩
  · exact hd
  · exact bit_down I.down _ _ hd h
theorem bit_to (I : DI X K β0 own0 w0 D ver β own g w t) (N : Next1 X D i o) {j : Nat} (h : Bit X.ops j i) : ¬ D j := fun hj => N.not (bit_down I.down _ _ hj h)

include hX in
theorem clash_at (I : DI X K β0 own0 w0 D ver β own g w t) (N : Next1 X D i o) {j : Nat} {p : Oper} (hp : X.ops[j]? = some p) (hji : j ≠ i) (hc : clash X.ops p o = true) (hc' : clash X.ops o p = true) : D j ↔ j < i := by
  rcases Nat.lt_or_gt_of_ne hji with h | h
  · rcases drawOk_clash hX.drawOk h hp N.op with hb | hb
    · exact ⟨fun _ => h, fun _ => bit_i I N hb⟩
    · rw [hc] at hb; cases hb
  · rcases drawOk_clash hX.drawOk h N.op hp with hb | hb
    · exact ⟨fun hd => absurd hd (bit_to I N hb), fun hl => by omega⟩
    · rw [hc'] at hb; cases hb

include hX in
theorem seen_at (I : DI X K β0 own0 w0 D ver β own g w t) (N : Next1 X D i o) {d : Nat} (hl : looks X.ops o d = true) : VR β ((X.E i).get d) (t.getD d undef) := by
  refine I.env d i (Nat.le_of_lt (op_lt N.op)) fun j p hp hd => ?_
  by_cases hji : j = i
  · subst hji; exact ⟨fun h => absurd h N.not, fun h => by omega⟩
  · refine clash_at hX I N hp hji ?_ ?_
    · simp [clash, looksD, hd, hl]
    · simp [clash, looksD, hd, hl]

def okD (G : Nat) (X : DX) (o : Oper) (x : Operand) : Bool := okx G x && (match x with | .tmp d => looks X.ops o d | _ => true)

include hX in
theorem rho_at (I : DI X K β0 own0 w0 D ver β own g w t) (N : Next1 X D i o) (hG : Glob β0 G) : ∀ x, okD G X o x = true → VR β ((X.E i).eval x) (feval t x) := by
  intro x hx
  unfold okD at hx
  rw [Bool.and_eq_true] at hx
  cases x with
  | tmp j => exact seen_at hX I N hx.2
  | const v => exact litOk_self β hx.1
  | global g => exact (hG.mono I.le).ptr (by simpa [okx] using hx.1)
  | func f => exact .func (.same _ (by intro l; simp)) .nil .nil

include hX in
theorem okD_all (ho : X.ops[i]? = some o) : o.op.operands.all (okD G X o) = true ∧ notDefer o.op = true := by
  have h := hX.opsOk
  rw [Array.all_eq_true'] at h
  have h1 := h o (Array.mem_of_getElem? ho)
  unfold opOk at h1
  rw [Bool.and_eq_true] at h1
  refine ⟨?_, h1.2⟩
  rw [Array.all_eq_true'] at h1 ⊢
  intro x hx
  unfold okD
  rw [h1.1 x hx, Bool.true_and]
  cases x with
  | tmp d =>
    simp only [looks, Bool.or_eq_true]
    left
    rw [List.any_eq_true]
    exact ⟨.tmp d, by simpa using hx, by simp⟩
  | _ => rfl

include hX in
theorem wanted_at (I : DI X K β0 own0 w0 D ver β own g w t) (N : Next1 X D i o) : Region.wanted o (yieldedV X.ops (X.E i)) = Region.wanted o (yielded X.ops t) :=
  wanted_sim (β := β) fun d hd => seen_at hX I N (by simp [looks, hd])

theorem getD_dst {t : Array Value} {d : Nat} {x : Option Nat} {v : Value} (h : x ≠ some d) : (dstAt t x v).getD d undef = t.getD d undef := by
  cases x with
  | none => rfl
  | some j =>
    have hne : j ≠ d := fun e => h (by rw [e])
    show (t.setIfInBounds j v).getD d undef = _
    by_cases hd : d < t.size
    · simp [Array.getD, hd, hne]
    · simp [Array.getD, hd]
theorem size_dst (t : Array Value) (x : Option Nat) (v : Value) : (dstAt t x v).size = t.size := by
  cases x with
  | none => rfl
  | some j => simp [dstAt]

include hX in
theorem env_step (I : DI X K β0 own0 w0 D ver β own g w t) (N : Next1 X D i o) {β' : Bij} {v v' : Value} (hE : X.E (i + 1) = (X.E i).dst o.dst v) (hle : β.le β') (hv : VR β' v v') (d p : Nat) (hp : p ≤ X.m)
    (hw : ∀ j q, X.ops[j]? = some q → q.dst = some d → ((D j ∨ j = i) ↔ j < p)) : VR β' ((X.E p).get d) ((dstAt t o.dst v').getD d undef) := by
  by_cases hd : o.dst = some d
  · have hip : i < p := (hw i o N.op hd).1 (.inr rfl)
    have hnw : (X.E p).get d = (X.E (i + 1)).get d := dx_env_get hX hip hp fun j q h1 h2 hq hqd => by
      have hji : j ≠ i := by omega
      have h3 := (hw j q hq hqd).2 h2
      have := clash_at hX I N hq hji (by simp [clash, sameDst, hd, hqd]) (by simp [clash, sameDst, hd, hqd])
      rcases h3 with h3 | h3
      · have := this.1 h3; omega
      · exact hji h3
    rw [hnw, hE, hd]
    show VR β' (((X.E i).put d v).get d) ((t.setIfInBounds d v').getD d undef)
    rw [Env.get_put]
    have hn := dx_env_n hX i (Nat.le_of_lt (op_lt N.op))
    by_cases hdn : d < t.size
    · rw [if_pos ⟨rfl, by rw [hn, ← I.tsz]; exact hdn⟩]
      have : (t.setIfInBounds d v').getD d undef = v' := by simp [Array.getD, hdn]
      rw [this]; exact hv
    · rw [if_neg (fun h => hdn (by rw [I.tsz, ← hn]; exact h.2))]
      have : (t.setIfInBounds d v').getD d undef = undef := by simp [Array.getD, hdn]
      rw [this, Env.get_big _ _ (by rw [hn, ← I.tsz]; omega)]
      exact .undef β'
  · rw [getD_dst hd]
    refine (I.env d p hp fun j q hq hqd => ?_).mono hle
    have h := hw j q hq hqd
    have hji : j ≠ i := by
      rintro rfl
      rw [N.op] at hq
      obtain rfl := Option.some.inj hq
      exact hd hqd
    exact ⟨fun hj => h.1 (.inl hj), fun hj => (h.2 hj).resolve_right hji⟩

include hX in
/-- memory at a place of the text up to which all effects were done -/
theorem sr_at (I : DI X K β0 own0 w0 D ver β own g w t) {p : Nat} (hp : p ≤ X.m) (hv : ver ≤ p) (hn : ∀ q, ver ≤ q → q < p → ¬ X.eff q) : SR K β own (X.S p).get w := by
  refine I.sr.weak fun id hid => ?_
  by_cases h : id < (X.S p).n
  · exact .inl (I.gI id hid p hv hp h fun q h1 h2 h3 => absurd h3 (hn q h1 h2)).symm
  · exact .inr (dx_wf hX p hp id (by omega))

include hX in
/-- numbers that the next one takes are free -/
theorem free_at (I : DI X K β0 own0 w0 D ver β own g w t) (N : Next1 X D i o) (hf : Free β0 X.s0 (X.S X.m)) : Free β (X.S i) (X.S (i + 1)) := by
  intro id hid
  have him := op_lt N.op
  rcases I.free id hid with h | ⟨j, hjm, hj, h1, h2⟩
  · rcases hf id h with h | h
    · exact .inl (Nat.lt_of_lt_of_le h (dx_n hX (Nat.zero_le i) (by omega)))
    · exact .inr (Nat.le_trans (dx_n hX him (Nat.le_refl _)) h)
  · have hji : j ≠ i := by rintro rfl; exact N.not hj
    rcases Nat.lt_or_gt_of_ne hji with h | h
    · exact .inl (Nat.lt_of_lt_of_le h2 (dx_n hX h (by omega)))
    · exact .inr (Nat.le_trans (dx_n hX h (by omega)) h1)

/-- a step that leaves memory alone -/
theorem step_still (hX : X.Good G) (I : DI X K β0 own0 w0 D ver β own g w t) (N : Next1 X D i o) (he : ¬ X.eff i) {v v' : Value} (hE : X.E (i + 1) = (X.E i).dst o.dst v) (hv : VR β v v') :
    DI X K β0 own0 w0 (fun j => D j ∨ j = i) ver β own g w (dstAt t o.dst v') where
  sr := I.sr
  le := I.le
  down := by
    rintro j p (hj | rfl) hp e hm hb
    · exact .inl (I.down j p hj hp e hm hb)
    · rw [N.op] at hp
      obtain rfl := Option.some.inj hp
      exact .inl (N.edges e hm hb)
  verm := I.verm
  verE := fun k hk => by
    have hki : k ≠ i := by rintro rfl; exact he hk
    exact ⟨fun h => (I.verE k hk).1 (h.resolve_right hki), fun h => .inl ((I.verE k hk).2 h)⟩
  verP := I.verP
  tsz := by rw [size_dst]; exact I.tsz
  env := env_step hX I N hE (Bij.le_refl β) hv
  gI := I.gI
  gJ := I.gJ
  free := fun x hid => (I.free x hid).imp id fun ⟨j, h1, h2, h3⟩ => ⟨j, h1, .inl h2, h3⟩
  size := I.size
  cframe := I.cframe
  os := I.os
  tape := I.tape
  output := I.output
  keep := I.keep

/-- old memory beside what a step leaves -/
theorem sr_join {β' : Bij} {own' : Nat → Option Nat} {s s' : St} {w' : World} (h : SR K β own g w) (e : Ext β own s w β' own' s' w') (h' : SR K β' own' s'.get w') : SR K β' own' (fun id => if id < s'.n then s'.get id else g id) w' where
  obj id b hb := by
    obtain ⟨q1, q2, q3⟩ := h'.obj id b hb
    refine ⟨q1, q2, fun ob hob => ?_⟩
    split at hob
    · exact q3 ob hob
    · rename_i hn
      rw [(e.keep id (by omega)).1] at hb
      obtain ⟨r1, r2, r3⟩ := h.obj id b hb
      obtain ⟨_, e2⟩ := e.cframe b r2 fun i hi => by
        rw [r1] at hi
        obtain rfl := Option.some.inj hi
        omega
      rw [e2]
      exact (r3 ob hob).mono e.le
  arr id hi L hL cs mv ro hc := by
    split at hc
    · exact h'.arr id hi L hL cs mv ro hc
    · rename_i hn
      rw [(e.keep id (by omega)).2] at hL
      obtain ⟨r1, r2⟩ := h.arr id hi L hL cs mv ro hc
      refine ⟨r1, fun hm => ?_⟩
      obtain ⟨a1, a2, a3⟩ := r2 hm
      obtain ⟨e1, e2⟩ := e.cframe L.block a2 fun i hi => by
        rw [a3] at hi
        split at hi
        · cases hi
        · obtain rfl := Option.some.inj hi
          omega
      rw [e2, e1]
      exact ⟨a1.mono e.le, Nat.lt_of_lt_of_le a2 e.size, a3⟩
  loc := h'.loc
  blk := h'.blk
  one := h'.one
  small := h'.small

end
end Go.Ai
