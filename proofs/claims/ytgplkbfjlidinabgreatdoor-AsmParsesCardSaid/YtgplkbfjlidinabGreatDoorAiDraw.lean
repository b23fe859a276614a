/- The interpreter: what holds of it. -/
import Derived.Test.YtgplkbfjlidinabGreatDoorAiTrace
import Derived.Below
import Derived.Test.YtgplkbfjlidinabGreatDoorKit
set_option linter.unusedVariables false
set_option linter.unusedSimpArgs false
set_option linter.unnecessarySimpa false
/-
  A region whose order is drawn: whatever order, it stands for the text's order.
-/
namespace Go.Ai
structure DX where
 C : Cfg
 rc : Rec
 ops : Array Oper
 e0 : Env
 s0 : St
def DX.E (X : DX) (i : Nat) : Env := (tr X.C X.rc X.ops X.e0 X.s0 i).1
def DX.S (X : DX) (i : Nat) : St := (tr X.C X.rc X.ops X.e0 X.s0 i).2
def DX.eff (X : DX) (k : Nat) : Prop := Eff X.C X.rc X.ops X.e0 X.s0 k
def DX.m (X : DX) : Nat := X.ops.size
structure DX.Good (X : DX) (G : Nat) : Prop where
 drawOk : drawOk X.ops = true
 opsOk : X.ops.all (opOk G) = true
 grow : RecGrow X.rc
 wf0 : X.s0.WF
 fact : ∀ j, j < X.m → Fact X.C X.rc X.ops X.e0 X.s0 j
section
variable {X : DX} {G : Nat} (hX : X.Good G)
theorem dx_op {i : Nat} (h : i < X.m) : ∃ o, X.ops[i]? = some o := ⟨X.ops[i]'h, Array.getElem?_eq_getElem h⟩
theorem op_lt {i : Nat} {o : Oper} (h : X.ops[i]? = some o) : i < X.m := by
 by_cases hi : i < X.ops.size
 ·exact hi
 ·rw [Array.getElem?_eq_none Z4] at h; cases h
theorem eval_look {C : Cfg} {s s' : St} {ρ : Operand → Value} {o : Op} (hc : Z2l C o = 2) {v : Value} (hv : Z2m C ρ s o = some (v, s')) : s' = s := by
  have map_ : ∀ {x : Option Value}, (x.map fun v => (v, s)) = some (v, s') → s' = s := by
    intro x h;rw [Option.map_eq_some_iff] at h;obtain ⟨r, _, e⟩ := h;exact (Prod.mk.inj e).2.symm
  cases o with
  | binOp a b c d e => exact map_ hv
  | load a b => exact map_ hv
  | lookup a b c d => exact map_ hv
  | convert a b x =>
    have hv : convS C s a b (ρ x) = some (v, s') := hv;have hst : strDst C a b = true := by
      simp only [Z2l] at hc;split at hc
      · simp at hc
      · simp at hc
      · rename_i h1 h2; simp [strDst, h1, h2]
      · simp at hc
    exact convStr_same hst hv
  | call c =>
    obtain ⟨callee, args, ts⟩ := c;cases callee with
    | builtin b =>
      simp only [Z2m, builtinV] at hv;split at hv
      · exact map_ hv
      · simp [Z2l] at hc
      · simp [Z2l] at hc
      · simp [Z2l] at hc
      · simp [Z2l] at hc
      · exact map_ hv
      · exact map_ hv
      · exact map_ hv
      · cases hv
    | _ => cases hv
  | _ => simp [Z2l] at hc
inductive Did (X : DX) (i : Nat) (o : Oper) : Prop where
 | skip (hw : ¬ Region.wanted o (Z2p X.ops (X.E i)) = true) (he : X.E (i + 1) = (X.E i).dst o.dst undef) (hs : X.S (i + 1) = X.S i)
 | low (hw : Region.wanted o (Z2p X.ops (X.E i)) = true) (v : Value) (hc : Z2l X.C o.op < 3) (hv : Z2m X.C (X.E i).eval (X.S i) o.op = some (v, X.S (i + 1))) (he : X.E (i + 1) = (X.E i).dst o.dst v)
  (hk : Z2l X.C o.op = 2 → ∀ k, k < i → X.eff k → Bit X.ops i k ∨ sameAgain X.C o.op (X.E i) (X.S k) v = true)
 | high (hw : Region.wanted o (Z2p X.ops (X.E i)) = true) (v : Value) (hc : ¬ Z2l X.C o.op < 3) (hv : oneOp X.C X.rc (X.E i) (X.S i) o.op = .ret (v, X.S (i + 1))) (he : X.E (i + 1) = (X.E i).dst o.dst v)
  (hk1 : ∀ k, k < i → X.eff k → Bit X.ops i k)
  (hk2 : ∀ k p vk sk, k < i → X.ops[k]? = some p → Region.wanted p (Z2p X.ops (X.E k)) = true → Z2l X.C p.op = 2 → Z2m X.C (X.E k).eval (X.S k) p.op = some (vk, sk) → Bit X.ops i k ∨ sameAgain X.C p.op (X.E k) (X.S (i + 1)) vk = true)
include hX in
theorem did {i : Nat} {o : Oper} (ho : X.ops[i]? = some o) : Did X i o := by
 by_cases hw : Region.wanted o (Z2p X.ops (X.E i)) = true
 ·obtain ⟨v, s', h1, h2, h3⟩ := hX.fact i (op_lt ho) o ho hw
  have ht := tr_run ho hw h1
  have hE : X.E (i + 1) = (X.E i).dst o.dst v := by show (tr _ _ _ _ _ _).1 = _; rw [ht]; rfl
  have hS : X.S (i + 1) = s' := by show (tr _ _ _ _ _ _).2 = _; rw [ht]
  subst hS
  by_cases hc : Z2l X.C o.op < 3
  ·refine .low hw v hc ?_ hE fun hc2 => h2 hc2
   have := oneOp_low (C := X.C) (s := X.S i) (rc := X.rc) (e := X.E i) hc
   have h1' : oneOp X.C X.rc (X.E i) (X.S i) o.op = .ret (v, X.S (i + 1)) := h1
   rw [this] at h1'
   cases he : Z2m X.C (X.E i).eval (X.S i) o.op with
   | none => rw [he] at h1'; cases h1'
   | some x => rw [he] at h1'; cases h1'; rfl
  ·refine .high hw v hc h1 hE (h3 hc).1 fun k p vk sk hk hp hpw hpc hpv => ?_
   refine (h3 hc).2 k p vk sk hk hp hpw hpc ?_
   have := oneOp_low (C := X.C) (s := X.S k) (rc := X.rc) (e := X.E k) (o := p.op) (by omega)
   show oneOp X.C X.rc (X.E k) (X.S k) p.op = _
   rw [this, hpv]; rfl
 ·have ht := tr_skip ho hw
  exact .skip hw (by show (tr _ _ _ _ _ _).1 = _; rw [ht]; rfl) (by show (tr _ _ _ _ _ _).2 = _; rw [ht]; rfl)
theorem eff_not {i : Nat} {o : Oper} (ho : X.ops[i]? = some o) (h : Region.wanted o (Z2p X.ops (X.E i)) = true → Z2l X.C o.op < 3) : ¬ X.eff i := by
 rintro ⟨p, hp, hw, hc⟩;rw [ho] at hp;obtain rfl := Option.some.inj hp;exact hc (h hw)
include hX in
theorem dx_wf : ∀ i, i ≤ X.m → (X.S i).WF
  | 0, _ => hX.wf0
  | i + 1, hi => by
    obtain ⟨o, ho⟩ := dx_op (X := X) (i := i) hi
    have hw := dx_wf i (by omega)
    cases did hX ho with
    | skip _ _ hs => rw [hs]; exact hw
    | low _ v _ hv _ _ => exact (Grow.op hv hw).2
    | high _ v _ hv _ _ _ => exact (grow_oneOp (C := X.C) hX.grow hw (x := (v, X.S (i + 1))) (by rw [hv]; exact .ret _)).2
include hX in
theorem dx_grow1 {i : Nat} (hi : i < X.m) : Grow (X.S i) (X.S (i + 1)) := by
 obtain ⟨o, ho⟩ := dx_op hi
 have hw := dx_wf hX i (by omega)
 cases did hX ho with
 | skip _ _ hs => rw [hs]; exact .refl _
 | low _ v _ hv _ _ => exact (Grow.op hv hw).1
 | high _ v _ hv _ _ _ => exact (grow_oneOp (C := X.C) hX.grow hw (x := (v, X.S (i + 1))) (by rw [hv]; exact .ret _)).1
include hX in
theorem dx_n {p q : Nat} (h : p ≤ q) (hq : q ≤ X.m) : (X.S p).n ≤ (X.S q).n := by
  induction q with
  | zero => have : p = 0 := by omega
            subst this; exact Nat.le_refl _
  | succ q ih =>
    by_cases he : p = q + 1
    · subst he; exact Nat.le_refl _
    · exact Nat.le_trans (ih (by omega) (by omega)) (dx_grow1 hX (by omega)).n
include hX in
theorem dx_same1 {i id : Nat} (hi : i < X.m) (hne : ¬ X.eff i) (hid : id < (X.S i).n) : (X.S (i + 1)).get id = (X.S i).get id := by
  obtain ⟨o, ho⟩ := dx_op hi
  cases did hX ho with
  | skip _ _ hs => rw [hs]
  | low hw v hc hv _ _ =>
    have hcl : Z2l X.C o.op = 0 ∨ Z2l X.C o.op = 1 ∨ Z2l X.C o.op = 2 := by omega
    rcases hcl with h | h | h
    · have := eval_blind h hv (X.S i)
      rw [hv] at this
      obtain ⟨_, e⟩ := Prod.mk.inj (Option.some.inj this)
      rw [e]
    · obtain ⟨ob, e, _⟩ := eval_fresh h hv
      rw [e, St.get_new, if_neg (by omega)]
    · rw [eval_look h hv]
  | high hw v hc hv _ _ _ => exact absurd ⟨o, ho, hw, hc⟩ hne
end
end Go.Ai
/-
  What holds while a drawn region runs in any order.
-/
namespace Go.Ai
section
variable {X : DX} {G : Nat} (hX : X.Good G)
include hX in
theorem dx_env_n : ∀ p, p ≤ X.m → (X.E p).n = X.e0.n
  | 0, _ => rfl
  | p + 1, hp => by
    obtain ⟨o, ho⟩ := dx_op (X := X) (i := p) hp
    have ih := dx_env_n p (by omega)
    have hd : ∀ v, ((X.E p).dst o.dst v).n = X.e0.n := fun v => by cases o.dst <;> exact ih
    cases did hX ho with
    | skip _ he _ => rw [he]; exact hd _
    | low _ v _ _ he _ => rw [he]; exact hd _
    | high _ v _ _ he _ _ => rw [he]; exact hd _
theorem get_dst {e : Env} {d : Nat} {x : Option Nat} {v : Value} (h : x ≠ some d) : (e.dst x v).get d = e.get d := by
  cases x with
  | none => rfl
  | some j =>
    show (e.put j v).get d = _;rw [Env.get_put, if_neg];rintro ⟨rfl, _⟩;exact h rfl
include hX in
theorem dx_env_get {d p q : Nat} (h : p ≤ q) (hq : q ≤ X.m) (hn : ∀ j o, p ≤ j → j < q → X.ops[j]? = some o → o.dst ≠ some d) : (X.E q).get d = (X.E p).get d := by
  induction q with
  | zero => have : p = 0 := by omega
            subst this; rfl
  | succ q ih =>
    by_cases he : p = q + 1
    · subst he; rfl
    · rw [← ih (by omega) (by omega) fun j o h1 h2 => hn j o h1 (by omega)]
      obtain ⟨o, ho⟩ := dx_op (X := X) (i := q) hq
      have hd := hn q o (by omega) (by omega) ho
      cases did hX ho with
      | skip _ he _ => rw [he]; exact get_dst hd
      | low _ v _ _ he _ => rw [he]; exact get_dst hd
      | high _ v _ _ he _ _ => rw [he]; exact get_dst hd
include hX in
theorem dx_same {id p q : Nat} (h : p ≤ q) (hq : q ≤ X.m) (hid : id < (X.S p).n) (hn : ∀ r, p ≤ r → r < q → ¬ X.eff r) : (X.S q).get id = (X.S p).get id := by
  induction q with
  | zero => have : p = 0 := by omega
            subst this; rfl
  | succ q ih =>
    by_cases he : p = q + 1
    · subst he; rfl
    · rw [← ih (by omega) (by omega) fun r h1 h2 => hn r h1 (by omega)]
      exact dx_same1 hX hq (hn q (by omega) (by omega)) (Nat.lt_of_lt_of_le hid (dx_n hX (by omega) (by omega)))
structure DI (X : DX) (K : Code → Prop) (β0 : Bij) (own0 : Nat → Option Nat) (w0 : World) (D : Nat → Prop) (ver : Nat) (β : Bij) (own : Nat → Option Nat) (g : Nat → Option AObj) (w : World) (t : Array Value) : Prop where
 sr : SR K β own g w
 le : β0.le β
 down : ∀ j o, D j → X.ops[j]? = some o → ∀ e ∈ o.after, Region.binds .any e = true → D e.on
 verm : ver ≤ X.m
 verE : ∀ k, X.eff k → (D k ↔ k < ver)
 verP : ver = 0 ∨ ∃ k, ver = k + 1 ∧ X.eff k
 tsz : t.size = X.e0.n
 env : ∀ d p, p ≤ X.m → (∀ j o, X.ops[j]? = some o → o.dst = some d → (D j ↔ j < p)) → VR β ((X.E p).get d) (t.getD d undef)
 gI : ∀ id, β.dom id → ∀ p, ver ≤ p → p ≤ X.m → id < (X.S p).n → (∀ q, ver ≤ q → q < p → X.eff q → (X.S q).n ≤ id) → g id = (X.S p).get id
 gJ : ∀ id, ¬ β.dom id → ∀ p q, p ≤ q → q ≤ ver → id < (X.S p).n → (X.S q).get id = (X.S p).get id
 free : ∀ id, β.dom id → β0.dom id ∨ ∃ j, j < X.m ∧ D j ∧ (X.S j).n ≤ id ∧ id < (X.S (j + 1)).n
 size : w0.heap.size ≤ w.heap.size
 cframe : ∀ b, b < w0.heap.size → (∀ i, own0 b = some i → (X.S X.m).n ≤ i) → own b = own0 b ∧ w.heap[b]? = w0.heap[b]?
 os : w.os = w0.os
 tape : w.tape = w0.tape
 output : w.output = w0.output
 keep : ∀ i, (X.S X.m).n ≤ i → β.obj i = β0.obj i ∧ β.arr i = β0.arr i ∧ β.vir i = β0.vir i
 virn : ∀ i, β.vir i → β0.vir i ∨ X.s0.n ≤ i
 drawn : DrLe w0.drawn w.drawn
structure Next1 (X : DX) (D : Nat → Prop) (i : Nat) (o : Oper) : Prop where
 op : X.ops[i]? = some o
 not : ¬ D i
 edges : ∀ e ∈ o.after, Region.binds .any e = true → D e.on
variable {K : Code → Prop} {β0 : Bij} {own0 : Nat → Option Nat} {w0 : World} {D : Nat → Prop} {ver : Nat} {β : Bij} {own : Nat → Option Nat} {g : Nat → Option AObj} {w : World} {t : Array Value}
variable {i : Nat} {o : Oper}
theorem bit_i (I : DI X K β0 own0 w0 D ver β own g w t) (N : Next1 X D i o) {k : Nat} (h : Bit X.ops i k) : D k := by
 obtain ⟨p, hp, e, he, hb, h⟩ := bit_edge h;rw [N.op] at hp;obtain rfl := Option.some.inj hp;have hd := N.edges e he hb;rcases h with rfl | ⟨_, h⟩
 ·exact hd
 ·exact bit_down I.down _ _ hd h
theorem bit_to (I : DI X K β0 own0 w0 D ver β own g w t) (N : Next1 X D i o) {j : Nat} (h : Bit X.ops j i) : ¬ D j := fun hj => N.not (bit_down I.down _ _ hj h)
include hX in
theorem clash_at (I : DI X K β0 own0 w0 D ver β own g w t) (N : Next1 X D i o) {j : Nat} {p : Oper} (hp : X.ops[j]? = some p) (hji : j ≠ i) (hc : clash X.ops p o = true) (hc' : clash X.ops o p = true) : D j ↔ j < i := by
 rcases Nat.lt_or_gt_of_ne hji with h | h
 ·rcases drawOk_clash hX.drawOk h hp N.op with hb | hb
  ·exact ⟨fun _ => h, fun _ => bit_i I N hb⟩
  ·rw [hc] at hb; cases hb
 ·rcases drawOk_clash hX.drawOk h N.op hp with hb | hb
  ·exact ⟨fun hd => absurd hd (bit_to I N hb), fun hl => by omega⟩
  ·rw [hc'] at hb; cases hb
include hX in
theorem seen_at (I : DI X K β0 own0 w0 D ver β own g w t) (N : Next1 X D i o) {d : Nat} (hl : looks X.ops o d = true) : VR β ((X.E i).get d) (t.getD d undef) := by
 refine I.env d i (Nat.le_of_lt (op_lt N.op)) fun j p hp hd => ?_
 by_cases hji : j = i
 ·subst hji; exact ⟨fun h => absurd h N.not, fun h => by omega⟩
 ·refine clash_at hX I N hp hji ?_ ?_
  ·simp [clash, looksD, hd, hl]
  ·simp [clash, looksD, hd, hl]
def okD (G : Nat) (X : DX) (o : Oper) (x : Operand) : Bool := okx G x && (match x with | .tmp d => looks X.ops o d | _ => true)
include hX in
theorem rho_at (I : DI X K β0 own0 w0 D ver β own g w t) (N : Next1 X D i o) (hG : Glob β0 G) : ∀ x, okD G X o x = true → VR β ((X.E i).eval x) (feval t x) := by
 intro x hx
 unfold okD at hx
 rw [Bool.and_eq_true] at hx
 cases x with
 | tmp j => exact seen_at hX I N hx.2
 | const v => exact litOk_self β hx.1
 | global g => exact (hG.mono I.le).ptr (by simpa [okx] using hx.1)
 | func f => exact .func (.same _ (by intro l; simp)) .nil .nil
include hX in
theorem okD_all (ho : X.ops[i]? = some o) : o.op.operands.all (okD G X o) = true ∧ notDefer o.op = true := by
  have h := hX.opsOk
  rw [Array.all_eq_true'] at h
  have h1 := h o (Array.mem_of_getElem? ho)
  unfold opOk at h1
  rw [Bool.and_eq_true] at h1
  refine ⟨?_, h1.2⟩
  rw [Array.all_eq_true'] at h1 ⊢
  intro x hx
  unfold okD
  rw [h1.1 x hx, Bool.true_and]
  cases x with
  | tmp d =>
    simp only [looks, Bool.or_eq_true]
    left
    rw [List.any_eq_true]
    exact ⟨.tmp d, by simpa using hx, by simp⟩
  | _ => rfl
include hX in
theorem wanted_at (I : DI X K β0 own0 w0 D ver β own g w t) (N : Next1 X D i o) : Region.wanted o (Z2p X.ops (X.E i)) = Region.wanted o (yielded X.ops t) :=
 wanted_sim (β := β) fun d hd => seen_at hX I N (by simp [looks, hd])
theorem getD_dst {t : Array Value} {d : Nat} {x : Option Nat} {v : Value} (h : x ≠ some d) : (dstAt t x v).getD d undef = t.getD d undef := by
  cases x with
  | none => rfl
  | some j =>
    have hne : j ≠ d := fun e => h (by rw [e])
    show (t.setIfInBounds j v).getD d undef = _;by_cases hd : d < t.size
    · simp [Array.getD, hd, hne]
    · simp [Array.getD, hd]
theorem size_dst (t : Array Value) (x : Option Nat) (v : Value) : (dstAt t x v).size = t.size := by
 cases x with
 | none => rfl
 | some j => simp [dstAt]
include hX in
theorem env_step (I : DI X K β0 own0 w0 D ver β own g w t) (N : Next1 X D i o) {β' : Bij} {v v' : Value} (hE : X.E (i + 1) = (X.E i).dst o.dst v) (hle : β.le β') (hv : VR β' v v') (d p : Nat) (hp : p ≤ X.m)
  (hw : ∀ j q, X.ops[j]? = some q → q.dst = some d → ((D j ∨ j = i) ↔ j < p)) : VR β' ((X.E p).get d) ((dstAt t o.dst v').getD d undef) := by
 by_cases hd : o.dst = some d
 ·have hip : i < p := (hw i o N.op hd).1 (.inr rfl)
  have hnw : (X.E p).get d = (X.E (i + 1)).get d := dx_env_get hX hip hp fun j q h1 h2 hq hqd => by
   have hji : j ≠ i := by omega
   have h3 := (hw j q hq hqd).2 h2
   have := clash_at hX I N hq hji (by simp [clash, sameDst, hd, hqd]) (by simp [clash, sameDst, hd, hqd])
   rcases h3 with h3 | h3
   ·have := this.1 h3; omega
   ·exact hji h3
  rw [hnw, hE, hd]
  show VR β' (((X.E i).put d v).get d) ((t.setIfInBounds d v').getD d undef)
  rw [Env.get_put]
  have hn := dx_env_n hX i (Nat.le_of_lt (op_lt N.op))
  by_cases hdn : d < t.size
  ·rw [if_pos ⟨rfl, by rw [hn, ← I.tsz]; exact hdn⟩]
   have : (t.setIfInBounds d v').getD d undef = v' := by simp [Array.getD, hdn]
   rw [this]; exact hv
  ·rw [if_neg (fun h => hdn (by rw [I.tsz, ← hn]; exact h.2))]
   have : (t.setIfInBounds d v').getD d undef = undef := by simp [Array.getD, hdn]
   rw [this, Env.get_big _ _ (by rw [hn, ← I.tsz]; omega)]
   exact .undef β'
 ·rw [getD_dst hd]
  refine (I.env d p hp fun j q hq hqd => ?_).mono hle
  have h := hw j q hq hqd
  have hji : j ≠ i := by
   rintro rfl
   rw [N.op] at hq
   obtain rfl := Option.some.inj hq
   exact hd hqd
  exact ⟨fun hj => h.1 (.inl hj), fun hj => (h.2 hj).resolve_right hji⟩
include hX in
theorem sr_at (I : DI X K β0 own0 w0 D ver β own g w t) {p : Nat} (hp : p ≤ X.m) (hv : ver ≤ p) (hn : ∀ q, ver ≤ q → q < p → ¬ X.eff q) : SR K β own (X.S p).get w := by
 refine I.sr.weak fun id hid => ?_
 by_cases h : id < (X.S p).n
 ·exact .inl (I.gI id hid p hv hp h fun q h1 h2 h3 => absurd h3 (hn q h1 h2)).symm
 ·exact .inr (dx_wf hX p hp id (by omega))
include hX in
theorem free_at (I : DI X K β0 own0 w0 D ver β own g w t) (N : Next1 X D i o) (hf : Free β0 X.s0 (X.S X.m)) : Free β (X.S i) (X.S (i + 1)) := by
 intro id hid
 have him := op_lt N.op
 rcases I.free id hid with h | ⟨j, hjm, hj, h1, h2⟩
 ·rcases hf id h with h | h
  ·exact .inl (Nat.lt_of_lt_of_le h (dx_n hX (Nat.zero_le i) (by omega)))
  ·exact .inr (Nat.le_trans (dx_n hX him (Nat.le_refl _)) h)
 ·have hji : j ≠ i := by rintro rfl; exact N.not hj
  rcases Nat.lt_or_gt_of_ne hji with h | h
  ·exact .inl (Nat.lt_of_lt_of_le h2 (dx_n hX h (by omega)))
  ·exact .inr (Nat.le_trans (dx_n hX h (by omega)) h1)
theorem step_still (hX : X.Good G) (I : DI X K β0 own0 w0 D ver β own g w t) (N : Next1 X D i o) (he : ¬ X.eff i) {v v' : Value} (hE : X.E (i + 1) = (X.E i).dst o.dst v) (hv : VR β v v') :
  DI X K β0 own0 w0 (fun j => D j ∨ j = i) ver β own g w (dstAt t o.dst v') where
 sr := I.sr
 le := I.le
 down := by
  rintro j p (hj | rfl) hp e hm hb
  ·exact .inl (I.down j p hj hp e hm hb)
  ·rw [N.op] at hp;obtain rfl := Option.some.inj hp;exact .inl (N.edges e hm hb)
 verm := I.verm
 verE := fun k hk => by
  have hki : k ≠ i := by rintro rfl; exact he hk
  exact ⟨fun h => (I.verE k hk).1 (h.resolve_right hki), fun h => .inl ((I.verE k hk).2 h)⟩
 verP := I.verP
 tsz := by rw [size_dst]; exact I.tsz
 env := env_step hX I N hE (Bij.le_refl β) hv
 gI := I.gI
 gJ := I.gJ
 free := fun x hid => (I.free x hid).imp id fun ⟨j, h1, h2, h3⟩ => ⟨j, h1, .inl h2, h3⟩
 size := I.size
 cframe := I.cframe
 os := I.os
 tape := I.tape
 output := I.output
 keep := I.keep
 virn := I.virn
 drawn := I.drawn
theorem sr_join {β' : Bij} {own' : Nat → Option Nat} {s s' : St} {w' : World} (h : SR K β own g w) (e : Ext β own s w β' own' s' w') (h' : SR K β' own' s'.get w') : SR K β' own' (fun id => if id < s'.n then s'.get id else g id) w' where
 obj id b hb := by
  obtain ⟨q1, q2, q3⟩ := h'.obj id b hb;refine ⟨q1, q2, fun ob hob => ?_⟩;split at hob
  ·exact q3 ob hob
  ·rename_i hn;rw [(e.keep id Z4).1] at hb;obtain ⟨r1, r2, r3⟩ := h.obj id b hb;obtain ⟨_, e2⟩ := e.cframe b r2 fun i hi => by
    rw [r1] at hi;obtain rfl := Option.some.inj hi;omega
   rw [e2];exact (r3 ob hob).mono e.le
 arr id hi L hL cs mv ro hc := by
  split at hc
  ·exact h'.arr id hi L hL cs mv ro hc
  ·rename_i hn;rw [(e.keep id Z4).2.1] at hL;obtain ⟨r1, r2⟩ := h.arr id hi L hL cs mv ro hc;refine ⟨r1, fun hm => ?_⟩;obtain ⟨a1, a2, a3⟩ := r2 hm;obtain ⟨e1, e2⟩ := e.cframe L.block a2 fun i hi => by
    rw [a3] at hi;split at hi
    ·cases hi
    ·obtain rfl := Option.some.inj hi;omega
   rw [e2, e1];exact ⟨a1.mono e.le, Nat.lt_of_lt_of_le a2 e.size, a3⟩
 loc := h'.loc
 blk := h'.blk
 one := h'.one
 small := h'.small
 vir := h'.vir
 ice := h'.ice
end
end Go.Ai
/-
  Each operation of a drawn region, whenever it comes; the whole region.
-/
namespace Go.Ai
def tab (g : Nat → Option AObj) : Nat → T AObj
  | 0 => .e
  | n + 1 => match g n with
    | some x => (tab g n).set n x
    | none => tab g n
theorem get_tab (g : Nat → Option AObj) : ∀ (n j : Nat), (tab g n).get j = if j < n then g j else none
  | 0, j => rfl
  | n + 1, j => by
    unfold tab;split
    · rename_i x hx
      rw [T.get_set, get_tab g n j];by_cases h : j = n
      · subst h; rw [if_pos rfl, if_pos Z4, hx]
      · rw [if_neg h]
        by_cases h2 : j < n
        · rw [if_pos h2, if_pos Z4]
        · rw [if_neg h2, if_neg Z4]
    · rename_i hx
      rw [get_tab g n j];by_cases h : j = n
      · subst h; rw [if_neg Z4, if_pos Z4, hx]
      · by_cases h2 : j < n
        · rw [if_pos h2, if_pos Z4]
        · rw [if_neg h2, if_neg Z4]
section
variable {P : Program} {X : DX} {G : Nat}
variable {K : Code → Prop} {β0 : Bij} {own0 : Nat → Option Nat} {w0 : World} {D : Nat → Prop} {ver : Nat} {β : Bij} {own : Nat → Option Nat} {g : Nat → Option AObj} {w : World} {t : Array Value}
variable {i : Nat} {o : Oper}
theorem step_ext (hX : X.Good G) (I : DI X K β0 own0 w0 D ver β own g w t) (N : Next1 X D i o) {q q' : St} (hq : q.n = (X.S i).n) (hq' : q'.n = (X.S (i + 1)).n) {β' : Bij} {own' : Nat → Option Nat} {w' : World} (e : Ext β own q w β' own' q' w') (h' : SR K β' own' q'.get w')
  {v v' : Value} (hE : X.E (i + 1) = (X.E i).dst o.dst v) (hv : VR β' v v') (ver' : Nat) (verm : ver' ≤ X.m) (verE : ∀ k, X.eff k → ((D k ∨ k = i) ↔ k < ver')) (verP : ver' = 0 ∨ ∃ k, ver' = k + 1 ∧ X.eff k)
  (gI : ∀ id, β'.dom id → ∀ p, ver' ≤ p → p ≤ X.m → id < (X.S p).n → (∀ r, ver' ≤ r → r < p → X.eff r → (X.S r).n ≤ id) → (if id < q'.n then q'.get id else g id) = (X.S p).get id)
  (gJ : ∀ id, ¬ β'.dom id → ∀ p r, p ≤ r → r ≤ ver' → id < (X.S p).n → (X.S r).get id = (X.S p).get id) :
  DI X K β0 own0 w0 (fun j => D j ∨ j = i) ver' β' own' (fun id => if id < q'.n then q'.get id else g id) w' (dstAt t o.dst v') where
 sr := sr_join I.sr e h'
 le := Bij.le_trans I.le e.le
 down := by
  rintro j p (hj | rfl) hp ed hm hb
  ·exact .inl (I.down j p hj hp ed hm hb)
  ·rw [N.op] at hp;obtain rfl := Option.some.inj hp;exact .inl (N.edges ed hm hb)
 verm := verm
 verE := verE
 verP := verP
 tsz := by rw [size_dst]; exact I.tsz
 env := env_step hX I N hE e.le hv
 gI := gI
 gJ := gJ
 free := fun x hid => by
  rcases e.new x hid with h | ⟨h1, h2⟩
  ·exact (I.free x h).imp id fun ⟨j, h1, h2, h3⟩ => ⟨j, h1, .inl h2, h3⟩
  ·exact .inr ⟨i, op_lt N.op, .inr rfl, Z4, Z4⟩
 size := Nat.le_trans I.size e.size
 cframe := fun b hb ho => by
  obtain ⟨r1, r2⟩ := I.cframe b hb ho;obtain ⟨r3, r4⟩ := e.cframe b (Nat.lt_of_lt_of_le hb I.size) fun x hx => by
   rw [r1] at hx;have h1 := ho x hx;have h2 := dx_n hX (show i + 1 ≤ X.m from op_lt N.op) (Nat.le_refl _);omega
  exact ⟨r3.trans r1, r4.trans r2⟩
 os := e.os.trans I.os
 tape := e.tape.trans I.tape
 output := e.output.trans I.output
 drawn := I.drawn.trans e.drawn
 keep := fun x hx => by
  have h2 := dx_n hX (show i + 1 ≤ X.m from op_lt N.op) (Nat.le_refl _);obtain ⟨r1, r2, r5⟩ := e.keep x Z4;obtain ⟨r3, r4, r6⟩ := I.keep x hx;exact ⟨r1.trans r3, r2.trans r4, r5.trans r6⟩
 virn := fun x hx => by
  rcases e.virn x hx with h | h
  ·exact I.virn x h
  ·refine .inr (Nat.le_trans ?_ h);rw [hq];exact dx_n hX (Nat.zero_le _) (Nat.le_of_lt (op_lt N.op))
def StepD (P : Program) (X : DX) (K : Code → Prop) (β0 : Bij) (own0 : Nat → Option Nat) (w0 : World) (D : Nat → Prop) (i : Nat) (w : World) (t : Array Value) : Prop :=
 ∀ (b : Frame) (ds : List Deferred) (k : List Item) (cs : List Frame) (rest : List Nat), ∃ ver' β' own' g' w' t', DI X K β0 own0 w0 (fun j => D j ∨ j = i) ver' β' own' g' w' t' ∧
  Steps P (lone (fgo b t ds (.inRegion X.ops (i :: rest) :: k)) cs w) (lone (fgo b t' ds (.inRegion X.ops rest :: k)) cs w')
theorem same_val {C : Cfg} {o : Op} {e : Env} {s : St} {v : Value} (hc : Z2l C o = 2) (h : sameAgain C o e s v = true) : Z2m C e.eval s o = some (v, s) := by
 unfold sameAgain at h;split at h
 ·rename_i v' s' hv;have := veq_eq _ _ h;subst this;rw [eval_look hc hv] at hv;exact hv
 ·cases h
theorem look_at (hX : X.Good G) (I : DI X K β0 own0 w0 D ver β own g w t) (N : Next1 X D i o) (hc : Z2l X.C o.op = 2) {v : Value} (hw : Region.wanted o (Z2p X.ops (X.E i)) = true) (hv : Z2m X.C (X.E i).eval (X.S i) o.op = some (v, X.S (i + 1)))
    (hk : Z2l X.C o.op = 2 → ∀ k, k < i → X.eff k → Bit X.ops i k ∨ sameAgain X.C o.op (X.E i) (X.S k) v = true) :
    ∃ p, p ≤ X.m ∧ SR K β own (X.S p).get w ∧ Z2m X.C (X.E i).eval (X.S p) o.op = some (v, X.S p) := by
  have him := op_lt N.op;by_cases hA : ∃ k, k < i ∧ X.eff k ∧ ¬ D k
  ·
    obtain ⟨k, hki, hke, hkd, hmin⟩ : ∃ k, k < i ∧ X.eff k ∧ ¬ D k ∧ ∀ q, q < k → X.eff q → D q := by
      obtain ⟨k0, h0⟩ := hA;induction k0 using Nat.strongRecOn with
      | _ k0 ih =>
        by_cases hq : ∃ q, q < k0 ∧ X.eff q ∧ ¬ D q
        · obtain ⟨q, hq1, hq2, hq3⟩ := hq
          exact ih q hq1 ⟨Z4, hq2, hq3⟩
        · refine ⟨k0, h0.1, h0.2.1, h0.2.2, fun q h1 h2 => ?_⟩
          by_cases hd : D q
          · exact hd
          · exact absurd ⟨q, h1, h2, hd⟩ hq
    have hver : ver ≤ k := by
      by_cases h : k < ver
      · exact absurd ((I.verE k hke).2 h) hkd
      · omega
    refine ⟨k, Z4, sr_at hX I Z4 hver fun q h1 h2 h3 => ?_, ?_⟩
    · have := (I.verE q h3).1 (hmin q h2 h3)
      omega
    · rcases hk hc k hki hke with hb | hs
      · exact absurd (bit_i I N hb) hkd
      · exact same_val hc hs
  · have hall : ∀ k, k < i → X.eff k → D k := fun k h1 h2 => by
      by_cases hd : D k
      · exact hd
      · exact absurd ⟨k, h1, h2, hd⟩ hA
    by_cases hvi : ver ≤ i
    · refine ⟨i, Z4, sr_at hX I Z4 hvi fun q h1 h2 h3 => ?_, ?_⟩
      · have := (I.verE q h3).1 (hall q h2 h3)
        omega
      · rw [eval_look hc hv] at hv
        exact hv
    · rcases I.verP with h0 | ⟨k, hk1, hk2⟩
      · omega
      · have hik : i < k := by
          have : k ≠ i := by
            rintro rfl;exact eff_not N.op (fun _ => Z4) hk2
          omega
        have hdk : D k := (I.verE k hk2).2 Z4;refine ⟨ver, I.verm, sr_at hX I I.verm (Nat.le_refl _) fun q h1 h2 => Z4, ?_⟩;obtain ⟨ok, hok, hwk, hck⟩ := hk2;rw [hk1];cases did hX hok with
        | skip hw' _ _ => exact absurd hwk hw'
        | low _ _ hc' _ _ _ => exact absurd hc' hck
        | high _ vk _ hvk _ _ hk2' =>
          rcases hk2' i o v _ hik N.op hw hc hv with hb | hs
          · exact absurd hdk (bit_to I N hb)
          · exact same_val hc hs
theorem step_draw (H : CfgOk P X.C (okK G)) (hc : CallSim P (okK G) G X.rc) (hr : RoundSim P (okK G) G X.rc) (hX : X.Good G) (hf : Free β0 X.s0 (X.S X.m)) (hG : Glob β0 G)
    (I : DI X (okK G) β0 own0 w0 D ver β own g w t) (N : Next1 X D i o) : StepD P X (okK G) β0 own0 w0 D i w t := by
  have him : i < X.m := op_lt N.op;have hwt := wanted_at hX I N;have hρ := rho_at hX I N hG;obtain ⟨hok, hnd⟩ := okD_all hX N.op;intro b ds k cs rest;have way : ∀ {v' : Value} {w' : World}, Region.wanted o (Z2p X.ops (X.E i)) = true → OpWay P o t w v' w' → Steps P (lone (fgo b t ds (.inRegion X.ops (i :: rest) :: k)) cs w) (lone (fgo b (dstAt t o.dst v') ds (.inRegion X.ops rest :: k)) cs w') :=
    fun hw h => h b ds k cs X.ops i rest N.op (hwt ▸ hw)
  cases did hX N.op with
  | skip hw hE hS =>
    refine ⟨ver, β, own, g, w, _, step_still hX I N (eff_not N.op fun h => absurd h hw) hE (.undef β), .one (st_opSkip N.op ?_)⟩;rw [← hwt]; simpa using hw
  | low hw v hcl hv hE hk =>
    have hne : ¬ X.eff i := eff_not N.op fun _ => hcl
    have hcase : Z2l X.C o.op = 0 ∨ Z2l X.C o.op = 1 ∨ Z2l X.C o.op = 2 := Z4
    rcases hcase with h0 | h1 | h2
    · have hs : SR (okK G) β own (St.empty 0).get w := I.sr.weak fun _ _ => .inr rfl
      obtain ⟨_, v', hrun, hvr⟩ := evalOp_pure H hs hρ hok (.inl h0) (eval_blind h0 hv (St.empty 0));exact ⟨ver, β, own, g, w, _, step_still hX I N hne hE hvr, way hw (.of_run hnd (.inl hrun))⟩
    ·
      obtain ⟨ob, hS, hfresh⟩ := eval_fresh h1 hv;let q : St := ⟨tab g (X.S i).n, (X.S i).n⟩
      have hqg : ∀ j, q.get j = if j < (X.S i).n then g j else none := get_tab g _
      have hqw : q.WF := fun j hj => by rw [hqg, if_neg (by show ¬ j < _; have : (X.S i).n ≤ j := hj; omega)]
      have hs : SR (okK G) β own q.get w := I.sr.weak fun j _ => by
        rw [hqg];split
        · exact .inl rfl
        · exact .inr rfl
      have hfr := free_at hX I N hf;have hSn : (X.S (i + 1)).n = (X.S i).n + 1 := by rw [hS]; rfl
      have hfq : Free β q (q.new ob) := fun x hx => by
        have := hfr x hx;rw [hSn] at this;exact this
      obtain ⟨⟨β', own', w', v', hrun, e, h', hvr⟩, _⟩ := evalOp_sim H hs hqw hfq hρ hok (hfresh q rfl);have hq'n : (q.new ob).n = (X.S (i + 1)).n := by rw [hSn]; rfl
      have hq'g : ∀ id, (if id < (q.new ob).n then (q.new ob).get id else g id) = if id = (X.S i).n then some ob else g id := by
        intro id;have hn : (q.new ob).n = (X.S i).n + 1 := rfl;have hqn : q.n = (X.S i).n := rfl;rw [hn, St.get_new, hqn, hqg];by_cases h : id = (X.S i).n
        · rw [if_pos Z4, if_pos h, if_pos h]
        · rw [if_neg h, if_neg h]
          by_cases h2 : id < (X.S i).n
          · rw [if_pos Z4, if_pos h2]
          · rw [if_neg Z4]
      refine ⟨ver, β', own', _, w', _, step_ext (q := q) (q' := q.new ob) hX I N rfl hq'n e h' hE hvr ver I.verm (fun k hke => ?_) I.verP (fun id hid p hp1 hp2 hp3 hp4 => ?_) (fun id hid p r hp1 hp2 hp3 => I.gJ id (fun h => hid (Bij.dom_le e.le h)) p r hp1 hp2 hp3), way hw (.of_run hnd hrun)⟩
      · have hki : k ≠ i := by rintro rfl; exact hne hke
        exact ⟨fun h => (I.verE k hke).1 (h.resolve_right hki), fun h => .inl ((I.verE k hke).2 h)⟩
      · rw [hq'g]
        by_cases hidn : id = (X.S i).n
        · rw [if_pos hidn]
          have hip : i + 1 ≤ p := by
            by_cases h : p ≤ i
            · have := dx_n hX h Z4; omega
            · omega
          have hob : (X.S (i + 1)).get id = some ob := by rw [hS, St.get_new, if_pos hidn]
          have hid1 : id < (X.S (i + 1)).n := Z4
          have hnoe : ∀ r, i + 1 ≤ r → ver ≤ r → r < p → ¬ X.eff r := fun r h1 h2 h3 h4 => by
            have := hp4 r h2 h3 h4;have := dx_n hX h1 Z4;omega
          by_cases hvi : ver ≤ i + 1
          · rw [dx_same hX hip hp2 hid1 fun r h1 h2 => hnoe r h1 Z4 h2, hob]
          · have hnd' : ¬ β.dom id := fun h => by
              have := hfr id h;omega
            have hj := I.gJ id hnd' (i + 1) ver Z4 (Nat.le_refl _) hid1;rw [dx_same hX hp1 hp2 (Nat.lt_of_lt_of_le hid1 (dx_n hX Z4 I.verm)) fun r h1 h2 => hnoe r Z4 h1 h2, hj, hob]
        · rw [if_neg hidn]
          have hdom : β.dom id := by
            rcases e.new id hid with h | ⟨h1, h2⟩
            · exact h
            · have hn : (q.new ob).n = (X.S i).n + 1 := rfl
              have hqn : q.n = (X.S i).n := rfl;omega
          exact I.gI id hdom p hp1 hp2 hp3 hp4
    · obtain ⟨p, hp, hs, hev⟩ := look_at hX I N h2 hw hv hk
      obtain ⟨_, v', hrun, hvr⟩ := evalOp_pure H hs hρ hok (.inr h2) hev;exact ⟨ver, β, own, g, w, _, step_still hX I N hne hE hvr, way hw (.of_run hnd (.inl hrun))⟩
  | high hw v hcl hv hE hk1 hk2 =>
    have heff : X.eff i := ⟨o, N.op, hw, hcl⟩;have hveri : ver ≤ i := by
      by_cases h : i < ver
      · exact absurd ((I.verE i heff).2 h) N.not
      · omega
    have hnoe : ∀ q, ver ≤ q → q < i → ¬ X.eff q := fun q h1 h2 h3 => by
      have := (I.verE q h3).1 (bit_i I N (hk1 q h2 h3));omega
    have hs := sr_at hX I (Nat.le_of_lt him) hveri hnoe;have hfr := free_at hX I N hf;have hall : (oneOp X.C X.rc (X.E i) (X.S i) o.op).All fun x => Free β (X.S i) x.2 := by rw [hv]; exact hfr
    obtain ⟨v1, s1, β', own', w', v', hh, e, h', hvr, hway⟩ := oneOp_sim H hc hr hs (dx_wf hX i Z4) (hG.mono I.le) hρ hok hnd hall b ds k cs X.ops i rest N.op (hwt ▸ hw);rw [hv] at hh;cases hh;refine ⟨i + 1, β', own', _, w', _, step_ext hX I N rfl rfl e h' hE hvr (i + 1) him (fun k hke => ?_) (.inr ⟨i, rfl, heff⟩) (fun id hid p hp1 hp2 hp3 hp4 => ?_) (fun id hid p r hp1 hp2 hp3 => ?_), hway⟩
    · constructor
      · rintro (h | rfl)
        · have := (I.verE k hke).1 h; omega
        · omega
      · intro h
        rcases lt_succ_cases h with h | h
        · exact .inl (bit_i I N (hk1 k h hke))
        · exact .inr h
    · by_cases hidn : id < (X.S (i + 1)).n
      · rw [if_pos hidn]
        refine (dx_same hX hp1 hp2 hidn fun r h1 h2 h3 => ?_).symm;have := hp4 r h1 h2 h3;have := dx_n hX h1 Z4;omega
      · rw [if_neg hidn]
        have hdom : β.dom id := by
          rcases e.new id hid with h | ⟨h1, h2⟩
          · exact h
          · exact absurd h2 hidn
        refine I.gI id hdom p Z4 hp2 hp3 fun q h1 h2 h3 => ?_
        by_cases hq : i + 1 ≤ q
        · exact hp4 q hq h2 h3
        · have := dx_n hX (show q ≤ i + 1 by omega) him
          omega
    · have hnd' : ¬ β.dom id := fun h => hid (Bij.dom_le e.le h)
      have upto : ∀ p r, p ≤ r → r ≤ i → id < (X.S p).n → (X.S r).get id = (X.S p).get id := by
        intro p r h1 h2 h3;by_cases hr1 : r ≤ ver
        · exact I.gJ id hnd' p r h1 hr1 h3
        · by_cases hp : p ≤ ver
          · have hvn : id < (X.S ver).n := Nat.lt_of_lt_of_le h3 (dx_n hX hp I.verm)
            rw [dx_same hX (show ver ≤ r by omega) Z4 hvn fun x hx1 hx2 => hnoe x hx1 Z4];exact I.gJ id hnd' p ver hp (Nat.le_refl _) h3
          · exact dx_same hX h1 Z4 h3 fun x hx1 hx2 => hnoe x Z4 Z4
      by_cases hri : r ≤ i
      · exact upto p r hp1 hri hp3
      · have hr' : r = i + 1 := by omega
        subst hr';by_cases hpi : p = i + 1
        · subst hpi; rfl
        · have hpi' : p ≤ i := by omega
          rw [← upto p i hpi' (Nat.le_refl _) hp3];exact e.aframe id (Nat.lt_of_lt_of_le hp3 (dx_n hX hpi' Z4)) hnd'
theorem draw_all (H : CfgOk P X.C (okK G)) (hc : CallSim P (okK G) G X.rc) (hr : RoundSim P (okK G) G X.rc) (hX : X.Good G) (hf : Free β0 X.s0 (X.S X.m)) (hG : Glob β0 G) :
    ∀ (fuel tt : Nat) (listed : Array Bool) (D : Nat → Prop) (ver : Nat) (β : Bij) (own : Nat → Option Nat) (g : Nat → Option AObj) (w : World) (t : Array Value),
    listed.size = X.ops.size → Ai.left X.ops.size listed = fuel → (∀ j, D j ↔ j < X.ops.size ∧ listed.getD j false = true) → DI X (okK G) β0 own0 w0 D ver β own g w t →
    ∀ (b : Frame) (ds : List Deferred) (k : List Item) (cs : List Frame), ∃ D' ver' β' own' g' w' t', (∀ j, j < X.m → D' j) ∧ DI X (okK G) β0 own0 w0 D' ver' β' own' g' w' t' ∧
      Steps P (lone (fgo b t ds (.inRegion X.ops (Region.linearise.go .any X.ops fuel tt listed []) :: k)) cs w) (lone (fgo b t' ds (.inRegion X.ops [] :: k)) cs w')
  | 0, tt, listed, D, ver, β, own, g, w, t, hsz, hl, hD, I => by
    refine fun b ds k cs => ⟨D, ver, β, own, g, w, t, fun j hj => (hD j).2 ⟨hj, ?_⟩, I, ?_⟩
    · have := left_zero hl hj
      have hj' : j < listed.size := by rw [hsz]; exact hj
      simpa [Array.getD, hj'] using this
    · simp only [Region.linearise.go, List.reverse_nil]
      exact .refl _ _
  | fuel + 1, tt, listed, D, ver, β, own, g, w, t, hsz, hl, hD, I => by
    have hne := ready_some hX.drawOk hsz hl;have hgo : Region.linearise.go .any X.ops (fuel + 1) tt listed [] = match (Region.ready .any X.ops listed)[tt % (Region.ready .any X.ops listed).length]? with
      | some i => Region.linearise.go .any X.ops fuel (tt / (Region.ready .any X.ops listed).length) (listed.setIfInBounds i true) [i]
      | none => [].reverse := rfl
    obtain ⟨i, hi⟩ : ∃ i, (Region.ready .any X.ops listed)[tt % (Region.ready .any X.ops listed).length]? = some i := by
      have hpos : 0 < (Region.ready .any X.ops listed).length := List.length_pos_iff.2 hne;exact ⟨_, List.getElem?_eq_getElem (Nat.mod_lt _ hpos)⟩
    obtain ⟨o, ho, him, hu, hed⟩ := ready_mem hsz (List.mem_of_getElem? hi);have hig : listed.getD i false = false := by
      have : i < listed.size := Z4
      simpa [Array.getD, this] using hu
    have hnD : ¬ D i := fun h => by
      have := ((hD i).1 h).2;rw [this] at hig;cases hig
    have hedD : ∀ e ∈ o.after, Region.binds .any e = true → D e.on := fun e he hb => by
      have hlt := drawOk_edge hX.drawOk ho e he hb;exact (hD _).2 ⟨Z4, hed e he hb⟩
    have N : Next1 X D i o := ⟨ho, hnD, hedD⟩;intro b ds k cs;obtain ⟨ver1, β1, own1, g1, w1, t1, I1, hst⟩ := step_draw H hc hr hX hf hG I N b ds k cs (Region.linearise.go .any X.ops fuel (tt / (Region.ready .any X.ops listed).length) (listed.setIfInBounds i true) []);have hl1 : Ai.left X.ops.size (listed.setIfInBounds i true) = fuel := by
      have := left_set hsz him hu;omega
    have hD1 : ∀ j, (D j ∨ j = i) ↔ j < X.ops.size ∧ (listed.setIfInBounds i true).getD j false = true := fun j => by
      have hget : j < listed.size → (listed.setIfInBounds i true).getD j false = if i = j then true else listed.getD j false := fun hj => by
        simp [Array.getD, hj, Array.getElem_setIfInBounds]
      constructor
      · rintro (h | rfl)
        · obtain ⟨h1, h2⟩ := (hD j).1 h
          refine ⟨h1, ?_⟩;rw [hget Z4, h2]; simp
        · refine ⟨him, ?_⟩
          rw [hget Z4, if_pos rfl]
      · rintro ⟨h1, h2⟩
        rw [hget Z4] at h2;by_cases h : i = j
        · exact .inr h.symm
        · rw [if_neg h] at h2
          exact .inl ((hD j).2 ⟨h1, h2⟩)
    obtain ⟨D', ver', β', own', g', w', t', q1, q2, q3⟩ := draw_all H hc hr hX hf hG fuel (tt / (Region.ready .any X.ops listed).length) (listed.setIfInBounds i true) _ ver1 β1 own1 g1 w1 t1 (by simpa using hsz) hl1 hD1 I1 b ds k cs;refine ⟨D', ver', β', own', g', w', t', q1, q2, ?_⟩;rw [hgo, hi];dsimp only;rw [linearise_go_acc, List.reverse_singleton, List.singleton_append];exact hst.trans q3
end
theorem draw_sim {P : Program} {C : Cfg} {G : Nat} (H : CfgOk P C (okK G)) : DrawSim P C (okK G) G := by
 intro rc hrg hc hr b ops hdr hops β own s w e t tt hs hw hG he hf;let X : DX := ⟨C, rc, ops, e, s⟩
 obtain ⟨hfact, hret, hfree⟩ := draw_facts (C := C) (rc := rc) (ops := ops) (e0 := e) (s0 := s) (Q := fun x => Free β s x.2) ops.toList 0 ⟨[], []⟩ rfl (Nat.zero_le _) ⟨fun k hk => absurd hk Z4, fun k _ _ _ hk => absurd hk Z4⟩ hf;have hX : X.Good G := ⟨hdr, hops, hrg, hw, fun j hj => hfact j (Nat.zero_le _) hj⟩;have hf' : Free β X.s0 (X.S X.m) := hfree;have I0 : DI X (okK G) β own w (fun _ => False) 0 β own s.get w t := {
  sr := hs
  le := Bij.le_refl β
  down := fun _ _ h => h.elim
  verm := Nat.zero_le _
  verE := fun k _ => ⟨fun h => h.elim, fun h => Z4⟩
  verP := .inl rfl
  tsz := he.size
  env := fun d p hp hwr => by
   have hn : (X.E p).get d = (X.E 0).get d := dx_env_get hX (Nat.zero_le p) hp fun j o _ h2 ho hd => ((hwr j o ho hd).2 h2).elim
   rw [hn];exact he.get d
  gI := fun id hid p _ hp hidp hq => by
   have hid0 : id < s.n := by
    rcases hf' id hid with h | h
    ·exact h
    ·have := dx_n hX hp (Nat.le_refl _); omega
   exact (dx_same hX (Nat.zero_le p) hp hid0 fun r _ h2 h3 => by
    have := hq r (Nat.zero_le _) h2 h3;have : (X.S 0).n ≤ (X.S r).n := dx_n hX (Nat.zero_le r) Z4;have h0 : (X.S 0).n = s.n := rfl;omega).symm
  gJ := fun id _ p r h1 h2 _ => by
   have hr0 : r = 0 := Z4
   subst hr0;have hp0 : p = 0 := Z4
   subst hp0;rfl
  free := fun id h => .inl h
  size := Nat.le_refl _
  cframe := fun _ _ _ => ⟨rfl, rfl⟩
  os := rfl
  tape := rfl
  output := rfl
  keep := fun _ _ => ⟨rfl, rfl, rfl⟩,
  virn := fun _ h => .inl h,
  drawn := DrLe.refl _ }
 have hl0 : Ai.left ops.size (Array.replicate ops.size false) = ops.size := by
  unfold Ai.left;rw [List.filter_eq_self.2]
  ·simp
  ·intro a ha;have ha' : a < ops.size := by simpa using ha
   simp [Array.getD, ha']
 intro ds k cs;obtain ⟨D', ver', β', own', g', w', t', q1, q2, q3⟩ := draw_all H hc hr hX hf' hG ops.size tt (Array.replicate ops.size false) (fun _ => False) 0 β own s.get w t (by simp [X]) hl0 (fun j => by
   constructor
   ·exact fun h => h.elim
   ·rintro ⟨h1, h2⟩;have h1' : j < ops.size := h1;simp [Array.getD, h1'] at h2) I0 b ds k cs
 have hnoe : ∀ r, ver' ≤ r → r < X.m → ¬ X.eff r := fun r h1 h2 h3 => by
  have := (q2.verE r h3).1 (q1 r h2);omega
 refine ⟨(X.E X.m), (X.S X.m), β', own', w', t', ?_, dx_wf hX _ (Nat.le_refl _), ?_, sr_at hX q2 (Nat.le_refl _) q2.verm hnoe, ?_, q3⟩
 ·have : execDraw C rc ops (Region.before ops) 0 ops.toList ⟨[], []⟩ e s = .ret (X.E X.m, X.S X.m) := hret;rw [this];exact .ret _
 ·exact {
   le := q2.le
   new := fun id hid => (q2.free id hid).imp (fun h => h) fun ⟨j, h1, _, h2, h3⟩ => ⟨Nat.le_trans (dx_n hX (Nat.zero_le j) Z4) h2, Nat.lt_of_lt_of_le h3 (dx_n hX h1 (Nat.le_refl _))⟩
   nle := dx_n hX (Nat.zero_le _) (Nat.le_refl _)
   aframe := fun id hid hd => by
    have hd' : ¬ β'.dom id := fun h => by
     rcases q2.free id h with h | ⟨j, h1, _, h2, _⟩
     ·exact hd h
     ·have : (X.S 0).n ≤ (X.S j).n := dx_n hX (Nat.zero_le j) Z4;have h0 : (X.S 0).n = s.n := rfl;omega
    have h1 := q2.gJ id hd' 0 ver' (Nat.zero_le _) (Nat.le_refl _) hid;rw [dx_same hX q2.verm (Nat.le_refl _) (Nat.lt_of_lt_of_le hid (dx_n hX (Nat.zero_le ver') q2.verm)) hnoe, h1];rfl
   size := q2.size
   cframe := q2.cframe
   os := q2.os
   tape := q2.tape
   output := q2.output
   keep := q2.keep,
   virn := q2.virn,
   drawn := by first | exact q2.drawn | exact (DrLe.of (Nat.le_succ _)).trans q2.drawn }
 ·refine ⟨by rw [q2.tsz]; exact (dx_env_n hX X.m (Nat.le_refl _)).symm, fun j _ => ?_⟩;exact q2.env j X.m (Nat.le_refl _) fun k o ho _ => ⟨fun _ => op_lt ho, fun h => q1 k h⟩
end Go.Ai
/-
  From a run of the interpreter to a call's contract; the interpreter's tables, made of a program.
-/
namespace Go.Ai
def okTy (ty : Ty) : Bool :=
 match ty.zero with
 | some z => litOk z
 | none => true
def tyRow (P : Program) (t : TypeId) : Option Ty :=
 match mkTy P t with
 | some ty => bif okTy ty then some ty else none
 | none => none
def okFn (G : Nat) (fn : Func) : Bool :=
 (match fn.body with | some c => okc G c | none => true) && !(fn.name == "runtime.NumGoroutine")
def fnRow (G : Nat) (fn : Func) : Option Func := bif okFn G fn then some fn else none
def cfgOf (G : Nat) (ft : T Func) (tt : T (Option Ty)) (peq : Nat → Option (List CK)) (dc : Nat → Option Inl) (cd : Inl → Nat) : Cfg where
 fn f := match ft.get f with
  | some fn => fnRow G fn
  | none => none
 ty t := match tt.get t with
  | some (some ty) => some ty
  | _ => none
 peq := peq
 dec := dc
 cod := cd
theorem tyRow_ok {P : Program} {t : TypeId} {ty : Ty} (h : tyRow P t = some ty) : mkTy P t = some ty ∧ okTy ty = true := by
 unfold tyRow at h;split at h
 ·rename_i ty' hm;cases ho : okTy ty' with
  | true => rw [ho] at h; cases h; exact ⟨hm, ho⟩
  | false => rw [ho] at h; cases h
 ·cases h
theorem cfg_ok {P : Program} {G : Nat} {peq : Nat → Option (List CK)} (n : Nat) (hm : P.follows .mixedOrders = true) (hp : ∀ t ks, peq t = some ks → EqAgree P t ks) :
    CfgOk P (cfgOf G (T.ofList P.funcs.toList) (T.ofList ((List.range n).map (tyRow P))) peq Ai.dec code) (okK G) where
  ty t ty h := by
    have hr : tyRow P t = some ty := by
      simp only [cfgOf, T.get_ofList] at h;split at h
      · rename_i ty' hg
        cases h;rw [List.getElem?_map, Option.map_eq_some_iff] at hg;obtain ⟨x, hx, e⟩ := hg;have hxt : x = t := by
          by_cases hl : t < n
          · rw [List.getElem?_range hl] at hx; exact (Option.some.inj hx).symm
          · rw [List.getElem?_eq_none (by simpa using hl)] at hx; cases hx
        rw [← hxt]; exact e
      · cases h
    obtain ⟨h1, _⟩ := tyRow_ok hr;unfold mkTy at h1;split at h1
    · rename_i i d hi hd
      cases h1;exact ⟨hd, i, hi, rfl, rfl, rfl, rfl, rfl⟩
    · cases h1
  zero t ty z h hz := by
    have hr : tyRow P t = some ty := by
      simp only [cfgOf, T.get_ofList] at h;split at h
      · rename_i ty' hg
        cases h;rw [List.getElem?_map, Option.map_eq_some_iff] at hg;obtain ⟨x, hx, e⟩ := hg;have hxt : x = t := by
          by_cases hl : t < n
          · rw [List.getElem?_range hl] at hx; exact (Option.some.inj hx).symm
          · rw [List.getElem?_eq_none (by simpa using hl)] at hx; cases hx
        rw [← hxt]; exact e
      · cases h
    obtain ⟨_, h2⟩ := tyRow_ok hr;unfold okTy at h2;rw [hz] at h2;exact h2
  fn f fn h := by
    simp only [cfgOf, T.get_ofList] at h;split at h
    · rename_i fn' hg
      unfold fnRow at h;cases ho : okFn G fn' with
      | false => rw [ho] at h; cases h
      | true =>
        rw [ho] at h;cases h;unfold okFn at ho;rw [Bool.and_eq_true] at ho;refine ⟨by simpa using hg, by simpa using ho.2, fun c hc => ?_⟩;have := ho.1;rw [hc] at this;exact this
    · cases h
  peq := hp
  mixed := hm
  dec := rfl
  cod := rfl
  lie t h := Z02
section
variable {P : Program} {C : Cfg}
def own00 : Nat → Option Nat := fun _ => none
theorem Z2d (n : Nat) : (St.empty n).WF := fun _ _ => rfl
theorem calls_true (H : CfgOk P C (okK 0)) {n f : Nat} {args : List Value} {args' : Array Value} {s : St} {β : Bij} {w : World} (hs : SR (okK 0) β own00 s.get w) (hw : s.WF) (hd : ∀ i, β.dom i → i < s.n) (ha : VRs β args args'.toList)
  (hr : (run C n (.call f args) s).All fun x => x.1 = .val (.bool true)) : Calls P f args' w fun e w' => e = .returned (.bool true) ∧ RowKit.Below w.heap.size w w' := by
 have hG : Glob β 0 := glob_none;intro cs;obtain ⟨v, s', β', own', w', v', h1, h2, h3, h4, _, h6⟩ := (run_sim H (draw_sim H) n).1 β own00 s w f args args' hs hw hG ha (hr.mono fun _ _ i hi => .inl (hd i hi)) cs;have hv := hr.has h1;simp only [Res.val.injEq] at hv;subst hv;obtain rfl := bool_inv h4;obtain ⟨fr, q1, q2, q3⟩ := h6;exact ⟨.returned (.bool true), w', fr, ⟨rfl, h2.os, h2.tape, h2.output, h2.size, fun k hk => (h2.cframe k hk fun i hi => by cases hi).2⟩, q1, q2, q3⟩
end
end Go.Ai