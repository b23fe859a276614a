/- The interpreter: what holds of it. -/
import Derived.Test.YtgplkbfjlidinabGreatDoorAiMach
import Derived.Test.YtgplkbfjlidinabGreatDoorKit
set_option linter.unusedVariables false
set_option linter.unusedSimpArgs false
set_option linter.unnecessarySimpa false
/-
  What code must be like; the operations of a region in the text's order.
-/
namespace Go.Ai
def guardTmp (ops : Array Oper) (o : Oper) : Option Nat :=
 match o.guard with
 | some (g, _) => (ops[g]?).bind (·.dst)
 | none => none
def looks (ops : Array Oper) (o : Oper) (d : Nat) : Bool :=
 o.op.operands.toList.any (fun x => match x with | .tmp t => Nat.beq t d | _ => false) || (match guardTmp ops o with | some t => Nat.beq t d | none => false)
def looksD (ops : Array Oper) (o : Oper) : Option Nat → Bool
 | some d => looks ops o d
 | none => false
def sameDst : Option Nat → Option Nat → Bool
 | some a, some b => Nat.beq a b
 | _, _ => false
def clash (ops : Array Oper) (p o : Oper) : Bool := looksD ops o p.dst || looksD ops p o.dst || sameDst p.dst o.dst
def drawRow (ops : Array Oper) (o : Oper) (mask : Nat) : Nat → List Oper → Bool
 | _, [] => true
 | i, p :: r => (mask.testBit i || !clash ops p o) && drawRow ops o mask (i + 1) r
def drawRows (ops : Array Oper) (b : Array Nat) : Nat → List Oper → Bool
 | _, [] => true
 | j, o :: r => (o.after.all fun e => !Region.binds .any e || Nat.blt e.on j) && drawRow ops o (b.getD j 0) 0 (ops.toList.take j) && drawRows ops b (j + 1) r
def drawOk (ops : Array Oper) : Bool := drawRows ops (Region.before ops) 0 ops.toList
def opOk (G : Nat) (o : Oper) : Bool := o.op.operands.all (okx G) && notDefer o.op
def okc (G : Nat) : Code → Bool
 | .skip | .label _ | .exit _ | .ret | .goto _ | .refuse _ => true
 | .region _ ops d => ops.all (opOk G) && (!d || drawOk ops)
 | .seq a b => okc G a && okc G b
 | .cond c a b => okx G c && okc G a && okc G b
 | .block _ c | .loop c | .scope c => okc G c
 | .rangeFunc f _ a c => okx G f && okc G a && okc G c
def okK (G : Nat) (c : Code) : Prop := okc G c = true
theorem drawRow_at {ops : Array Oper} {o : Oper} {mask : Nat} : ∀ {l : List Oper} {i : Nat}, drawRow ops o mask i l = true → ∀ k p, l[k]? = some p → mask.testBit (i + k) = true ∨ clash ops p o = false
  | [], i, _, k, p, hk => by simp at hk
  | q :: r, i, h, k, p, hk => by
    simp only [drawRow, Bool.and_eq_true, Bool.or_eq_true, Bool.not_eq_true'] at h;cases k with
    | zero => simp at hk; subst hk; exact h.1
    | succ k =>
      have := drawRow_at h.2 k p (by simpa using hk)
      rwa [show i + 1 + k = i + (k + 1) from Z4] at this
theorem drawRows_at {ops : Array Oper} {b : Array Nat} : ∀ {l : List Oper} {j : Nat}, drawRows ops b j l = true → ∀ k o, l[k]? = some o →
    (∀ e ∈ o.after, Region.binds .any e = true → e.on < j + k) ∧ drawRow ops o (b.getD (j + k) 0) 0 (ops.toList.take (j + k)) = true
  | [], j, _, k, o, hk => by simp at hk
  | q :: r, j, h, k, o, hk => by
    simp only [drawRows, Bool.and_eq_true] at h;cases k with
    | zero =>
      simp at hk; subst hk
      refine ⟨fun e he hb => ?_, h.1.2⟩;have := Array.all_eq_true'.1 h.1.1 e he;simp [hb] at this
      simpa [Nat.blt_eq] using this
    | succ k =>
      have := drawRows_at h.2 k o (by simpa using hk)
      rwa [show j + 1 + k = j + (k + 1) from Z4] at this
theorem drawOk_edge {ops : Array Oper} (h : drawOk ops = true) {j : Nat} {o : Oper} (ho : ops[j]? = some o) : ∀ e ∈ o.after, Region.binds .any e = true → e.on < j := by
 have := (drawRows_at h j o (by simpa using ho)).1;simpa using this
theorem drawOk_clash {ops : Array Oper} (h : drawOk ops = true) {i j : Nat} (hij : i < j) {p o : Oper} (hp : ops[i]? = some p) (ho : ops[j]? = some o) :
  ((Region.before ops).getD j 0).testBit i = true ∨ clash ops p o = false := by
 have h1 := (drawRows_at h j o (by simpa using ho)).2;have := drawRow_at h1 i p (by rw [Nat.zero_add, List.getElem?_take_of_lt hij]; simpa using hp);simpa using this
section
variable {P : Program} {C : Cfg} {β : Bij} {own : Nat → Option Nat} {s : St} {w : World} {G : Nat}
theorem VR.bool_iff {v v' : Value} (h : VR β v v') (b : Bool) : v = .bool b ↔ v' = .bool b := by
 constructor
 ·rintro rfl; exact bool_inv h
 ·rintro rfl;cases h with
  | bool => rfl
  | junk _ h => cases h
theorem wanted_sim {ops : Array Oper} {o : Oper} {e : Env} {t : Array Value} (h : ∀ d, guardTmp ops o = some d → VR β (e.get d) (t.getD d undef)) :
    Region.wanted o (Z2p ops e) = Region.wanted o (yielded ops t) := by
  unfold Region.wanted;cases hg : o.guard with
  | none => rfl
  | some x =>
    obtain ⟨g, b⟩ := x;simp only;congr 1
    unfold Z2p yielded;simp only [guardTmp, hg] at h;cases hd : (ops[g]?).bind (·.dst) with
    | none => rfl
    | some d =>
      have hv := h d hd;simp only [Option.bind_some];have ht : t.getD d undef = (t[d]?).getD undef := by
        by_cases hq : d < t.size <;> simp [Array.getD, hq]
      rw [ht] at hv;cases htd : t[d]? with
      | none =>
        rw [htd] at hv;have : ∀ b, e.get d ≠ .bool b := fun b hb => by
          have := (hv.bool_iff b).1 hb;simp [undef] at this
        split
        · rename_i b hb; exact absurd hb (this b)
        · rfl
      | some v =>
        rw [htd] at hv;simp only [Option.getD_some] at hv;split
        · rename_i b hb
          have := (hv.bool_iff b).1 hb;subst this; rfl
        · rename_i hb
          split
          · rename_i b hb'
            have := Option.some.inj hb';exact absurd ((hv.bool_iff b).2 this) (hb b)
          · rfl
theorem rho_all (hG : Glob β G) {e : Env} {t : Array Value} (he : ER β e t) : ∀ x, okx G x = true → VR β (e.eval x) (feval t x) := by
 intro x hx;cases x with
 | tmp j => exact he.get j
 | const v => exact litOk_self β hx
 | global g => exact hG.ptr (by simpa [okx] using hx)
 | func f => exact .func (.same _ (by intro l; simp)) .nil .nil
theorem ER.dst {e : Env} {t : Array Value} (h : ER β e t) (d : Option Nat) {v v' : Value} (hv : VR β v v') : ER β (e.dst d v) (dstAt t d v') := by
 cases d with
 | none => exact h
 | some j => exact h.put j hv
theorem all_has {α : Type} {Q Q' : α → Prop} : ∀ {m : M α}, (∀ a, m.Has a → Q a → Q' a) → m.All Q → m.All Q'
 | .ret a, h, hq => h a (.ret a) hq
 | .fail, _, hq => hq
 | .ask _ _, h, hq => ⟨hq.1, fun i hi => all_has (fun a ha => h a (.ask hi ha)) (hq.2 i hi)⟩
theorem free_bind {α γ : Type} {m : M α} {f : α → M γ} {sa : α → St} {sc : γ → St} (h : (m.bind f).All fun x => Free β s (sc x)) (hg : ∀ a, m.Has a → ∀ x, (f a).Has x → (sa a).n ≤ (sc x).n) :
  m.All fun a => Free β s (sa a) := by
 rw [M.all_bind] at h;refine all_has (fun a ha hq => ?_) h;obtain ⟨x, hx⟩ := M.All.some hq;exact (hq.has hx).left (hg a ha x hx)
theorem free_next {α : Type} {β' : Bij} {own' : Nat → Option Nat} {s' : St} {w' : World} (e : Ext β own s w β' own' s' w') {m : M α} {sa : α → St} (h : m.All fun a => Free β s (sa a)) : m.All fun a => Free β' s' (sa a) :=
 h.mono fun _ hq => hq.right e
def OpsSim (P : Program) (K : Code → Prop) (β : Bij) (own : Nat → Option Nat) (s : St) (w : World) (m : M (Env × St)) (b : Frame) (ops : Array Oper) (is : List Nat) (t : Array Value) : Prop :=
 ∀ (ds : List Deferred) (k : List Item) (cs : List Frame), ∃ e' s' β' own' w' t', m.Has (e', s') ∧ s'.WF ∧ Ext β own s w β' own' s' w' ∧ SR K β' own' s'.get w' ∧ ER β' e' t' ∧
  Steps P (lone (fgo b t ds (.inRegion ops is :: k)) cs w) (lone (fgo b t' ds (.inRegion ops [] :: k)) cs w')
theorem execOps_sim {K : Code → Prop} (H : CfgOk P C K) {rc : Rec} (hrg : RecGrow rc) (hc : CallSim P K G rc) (hr : RoundSim P K G rc) (b : Frame) {ops : Array Oper} : ∀ (l : List Oper) (is : List Nat) (β : Bij) (own : Nat → Option Nat) (s : St) (w : World) (e : Env) (t : Array Value),
    is.map (ops[·]?) = l.map some → l.all (opOk G) = true → SR K β own s.get w → s.WF → Glob β G → ER β e t → (execOps C rc ops l e s).All (fun x => Free β s x.2) →
    OpsSim P K β own s w (execOps C rc ops l e s) b ops is t
  | [], is, β, own, s, w, e, t, hl, hok, hs, hw, hG, he, hf => by
    have : is = [] := by simpa using hl
    subst this;exact fun _ _ _ => ⟨e, s, β, own, w, t, .ret _, hw, .refl .., hs, he, .refl _ _⟩
  | o :: r, is, β, own, s, w, e, t, hl, hok, hs, hw, hG, he, hf => by
    obtain ⟨i, is, rfl⟩ : ∃ i js, is = i :: js := by
      cases is with
      | nil => simp at hl
      | cons i js => exact ⟨i, js, rfl⟩
    simp only [List.map_cons, List.cons.injEq] at hl;obtain ⟨ho, hl⟩ := hl;simp only [List.all_cons, Bool.and_eq_true] at hok;obtain ⟨hok1, hok2⟩ := hok;have hok1' := hok1;simp only [opOk, Bool.and_eq_true] at hok1;have hwt := wanted_sim (β := β) (ops := ops) (o := o) (e := e) (t := t) (fun d _ => he.get d);unfold execOps at hf ⊢;by_cases hwn : Region.wanted o (Z2p ops e) = true
    · rw [if_pos hwn] at hf ⊢
      have hf1 : (oneOp C rc e s o.op).All fun x => Free β s x.2 := free_bind hf fun a ha x hx =>
        (grow_execOps hrg r _ _ (grow_oneOp hrg hw ha).2 x hx).1.n
      intro ds k cs;obtain ⟨v, s1, β1, own1, w1, v1, h1, h2, h3, h4, h5⟩ := oneOp_sim H hc hr hs hw hG (rho_all hG he) hok1.1 hok1.2 hf1 b ds k cs ops i is ho (hwt ▸ hwn);rw [M.all_bind] at hf;have hf2 := free_next h2 (hf.has h1);have hw1 := (grow_oneOp hrg hw h1).2;obtain ⟨e2, s2, β2, own2, w2, t2, q1, qw, q2, q3, q4, q5⟩ := execOps_sim H hrg hc hr b r is β1 own1 s1 w1 _ _ hl hok2 h3 hw1 (hG.mono h2.le) ((he.mono h2.le).dst o.dst h4) hf2 ds k cs;exact ⟨e2, s2, β2, own2, w2, t2, h1.bind q1, qw, h2.trans q2, q3, q4, h5.trans q5⟩
    · rw [if_neg hwn] at hf ⊢
      have hwn' : Region.wanted o (yielded ops t) = false := by rw [← hwt]; simpa using hwn
      intro ds k cs;obtain ⟨e2, s2, β2, own2, w2, t2, q1, qw, q2, q3, q4, q5⟩ := execOps_sim H hrg hc hr b r is β own s w _ _ hl hok2 hs hw hG (he.dst o.dst (.undef β)) hf ds k cs;exact ⟨e2, s2, β2, own2, w2, t2, q1, qw, q2, q3, q4, .head (st_opSkip ho hwn') q5⟩
theorem range_ops (ops : Array Oper) : (List.range ops.size).map (ops[·]?) = ops.toList.map some := by
 apply List.ext_getElem?;intro i;rw [List.getElem?_map, List.getElem?_map];by_cases h : i < ops.size
 ·rw [List.getElem?_range h]; simp [h]
 ·rw [List.getElem?_eq_none Z15]; simp [h]
def DrawSim (P : Program) (C : Cfg) (K : Code → Prop) (G : Nat) : Prop :=
 ∀ (rc : Rec), RecGrow rc → CallSim P K G rc → RoundSim P K G rc → ∀ (b : Frame) (ops : Array Oper), drawOk ops = true → ops.all (opOk G) = true →
  ∀ (β : Bij) (own : Nat → Option Nat) (s : St) (w : World) (e : Env) (t : Array Value) (tt : Nat), SR K β own s.get w → s.WF → Glob β G → ER β e t → (execDraw C rc ops (Region.before ops) 0 ops.toList ⟨[], []⟩ e s).All (fun x => Free β s x.2) →
  OpsSim P K β own s w (execDraw C rc ops (Region.before ops) 0 ops.toList ⟨[], []⟩ e s) b ops (Region.linearise .any ops tt) t
end
end Go.Ai
/-
  The interpreter's run stands for the machine's: code, calls, rounds.
-/
namespace Go.Ai
section
variable {P : Program} {C : Cfg} {β : Bij} {own : Nat → Option Nat} {s : St} {w : World} {G : Nat}
def markOf (b : Nat) : Deferred := { target := .collected b, args := #[] }
def Marks (n0 : Nat) (ds : List Deferred) (own : Nat → Option Nat) (w : World) : Prop :=
 ∃ bs : List Nat, ds = bs.map markOf ∧ bs.Nodup ∧ ∀ b ∈ bs, n0 ≤ b ∧ own b = none ∧ w.heap[b]? = some (.deferred (some []))
theorem Marks.nil (n0 : Nat) (own : Nat → Option Nat) (w : World) : Marks n0 [] own w := ⟨[], rfl, .nil, fun _ h => Z02⟩
theorem heap_lt {w : World} {b : Nat} {O : Obj} (h : w.heap[b]? = some O) : b < w.heap.size := by
 by_cases hb : b < w.heap.size
 ·exact hb
 ·rw [Array.getElem?_eq_none Z4] at h; cases h
theorem Marks.ext {n0 : Nat} {ds : List Deferred} {β' : Bij} {own' : Nat → Option Nat} {s' : St} {w' : World} (h : Marks n0 ds own w) (e : Ext β own s w β' own' s' w') : Marks n0 ds own' w' := by
 obtain ⟨bs, h1, h2, h3⟩ := h;refine ⟨bs, h1, h2, fun b hb => ?_⟩;obtain ⟨g1, g2, g3⟩ := h3 b hb;obtain ⟨e1, e2⟩ := e.cframe b (heap_lt g3) fun i hi => by rw [g2] at hi; cases hi
 exact ⟨g1, e1.trans g2, e2.trans g3⟩
def InRound (b : Frame) (β : Bij) (s : St) : Prop := b.roundOf = none ∨ ∃ l l0, b.roundOf = some l0 ∧ β.obj l = some l0 ∧ isLoop (s.get l)
theorem InRound.mono {b : Frame} {β' : Bij} {s' : St} (h : InRound b β s) (hl : β.le β') (hg : Grow s s') : InRound b β' s' := by
 rcases h with h | ⟨l, l0, h1, h2, h3⟩
 ·exact .inl h
 ·exact .inr ⟨l, l0, h1, hl.1 _ _ h2, hg.loop _ h3⟩
def start : Code → List Item → List Item
 | .loop c, k => .code c :: .inLoop c :: k
 | c, k => .code c :: k
theorem to_start (b : Frame) (t : Array Value) (ds : List Deferred) (cs : List Frame) (w : World) (c : Code) (k : List Item) : Steps P (lone (fgo b t ds (.code c :: k)) cs w) (lone (fgo b t ds (start c k)) cs w) := by
 cases c with
 | loop c => exact .one st_loop
 | _ => exact .refl _ _
def Goes (P : Program) (b : Frame) (st : List Item → List Item) (t : Array Value) (ds : List Deferred) (w : World) (o : Out) (t' : Array Value) (ds' : List Deferred) (w' : World) (k : List Item) (cs : List Frame) : Prop :=
 match o with
 | .normal => Steps P (lone (fgo b t ds (st k)) cs w) (lone (fgo b t' ds' k) cs w')
 | .exit id => ∃ k1, exitTo id k1 = exitTo id k ∧ Steps P (lone (fgo b t ds (st k)) cs w) (lone (fgo b t' ds' (.code (.exit id) :: k1)) cs w')
 | .ret => ∃ k1, Steps P (lone (fgo b t ds (st k)) cs w) (lone (fgo b t' ds' (.code .ret :: k1)) cs w')
def CodeRes (P : Program) (K : Code → Prop) (β : Bij) (own : Nat → Option Nat) (s : St) (w : World) (m : M (Out × Env × St)) (b : Frame) (n0 : Nat) (st : List Item → List Item) (t : Array Value) (ds : List Deferred) : Prop :=
 ∀ (k : List Item) (cs : List Frame), ∃ o e' s' β' own' w' t' ds', m.Has (o, e', s') ∧ s'.WF ∧ Ext β own s w β' own' s' w' ∧ SR K β' own' s'.get w' ∧ ER β' e' t' ∧ Marks n0 ds' own' w' ∧ Goes P b st t ds w o t' ds' w' k cs
theorem Goes.before {b : Frame} {st st' : List Item → List Item} {t t' : Array Value} {ds ds' : List Deferred} {w w' : World} {o : Out} {k : List Item} {cs : List Frame} (h : Goes P b st t ds w o t' ds' w' k cs)
  (hb : Steps P (lone (fgo b t ds (st' k)) cs w) (lone (fgo b t ds (st k)) cs w)) : Goes P b st' t ds w o t' ds' w' k cs := by
 cases o with
 | normal => exact hb.trans h
 | exit id => exact let ⟨k1, h1, h2⟩ := h; ⟨k1, h1, hb.trans h2⟩
 | ret => exact let ⟨k1, h2⟩ := h; ⟨k1, hb.trans h2⟩
theorem CodeRes.before {m : M (Out × Env × St)} {K : Code → Prop} {b : Frame} {n0 : Nat} {st st' : List Item → List Item} {t : Array Value} {ds : List Deferred} (h : CodeRes P K β own s w m b n0 st t ds)
  (hb : ∀ k cs, Steps P (lone (fgo b t ds (st' k)) cs w) (lone (fgo b t ds (st k)) cs w)) : CodeRes P K β own s w m b n0 st' t ds := by
 intro k cs;obtain ⟨o, e', s', β', own', w', t', ds', h1, h2, h3, h4, h5, h6, h7⟩ := h k cs;exact ⟨o, e', s', β', own', w', t', ds', h1, h2, h3, h4, h5, h6, h7.before (hb k cs)⟩
def CodeSim (P : Program) (K : Code → Prop) (G : Nat) (rc : Rec) : Prop :=
 ∀ (β : Bij) (own : Nat → Option Nat) (s : St) (w : World) (fid : FuncId) (c : Code) (e : Env) (b : Frame) (t : Array Value) (ds : List Deferred) (n0 : Nat),
  SR K β own s.get w → s.WF → Glob β G → ER β e t → okc G c = true → b.fn = fid → InRound b β s → Marks n0 ds own w → n0 ≤ w.heap.size → (rc (.code fid c e) s).All (fun x => Free β s x.2) →
  CodeRes P K β own s w ((rc (.code fid c e) s).bind outOf) b n0 (start c) t ds
theorem alloc_ext {K : Code → Prop} (hs : SR K β own s.get w) (O : Obj) : Ext β own s w β own s (w.alloc O) ∧ SR K β own s.get (w.alloc O) := by
 have hsz : (w.alloc O).heap.size = w.heap.size + 1 := Z0u
 refine change hs (fun _ => False) (fun j h => h.elim) (Nat.le_refl _) (Bij.le_refl _) (fun _ _ => rfl) (fun _ _ => rfl) (fun _ _ => rfl) Z4
  (fun b hb _ => ⟨rfl, heap_alloc_old w O b hb⟩) (fun _ h => h.elim) (fun _ h => h.elim) (fun _ h => h.elim) (fun _ h => h.elim) (fun _ h => h.elim) (fun b i hb => by have := hs.small b i hb; omega) rfl rfl rfl
theorem run_alloc (O : Obj) : (newObj O).run P w = .ok w.heap.size (w.alloc O) := rfl
theorem set_loop {K : Code → Prop} (hs : SR K β own s.get w) (hw : s.WF) {l l' : Nat} {lp lp1 : ALoop} {lp' lp1' : Loop} (hl : β.obj l = some l') (hg : s.get l = some (.loop lp)) (hh : w.heap[l']? = some (.loop lp')) (hr : LoopR β K lp1 lp1') :
  ∃ w', (setObj l' (.loop lp1')).run P w = .ok () w' ∧ Ext β own s w β own (s.set l (.loop lp1)) w' ∧ SR K β own (s.set l (.loop lp1)).get w' := by
 obtain ⟨q1, q2, q3⟩ := setMap w (O' := .loop lp1') hh;refine ⟨{ w with heap := w.heap.setIfInBounds l' (.loop lp1') }, run_setObj hh Z0u _, ?_⟩;exact set_obj hs hw hl hg (O := .loop lp1') q1 ⟨lp1', rfl, hr⟩ q3 q2 rfl rfl rfl
theorem loopEnd_eq {l : Nat} {e : Env} {v : Value} {s3 : St} {lp : ALoop} (hg : s3.get l = some (.loop lp)) (hb : lp.state ≠ .busy) {o : Out} (hp : lp.pending = jumpOf o) :
  loopEnd l e (.val v, s3) = .ret (o, e, s3.set l (.loop { lp with state := .exhausted })) := by
 obtain ⟨st, pd, fn, tm, ps, x, y⟩ := lp;simp only at hp hb;subst hp;unfold loopEnd;dsimp only;rw [hg];cases o <;> cases st <;> first | rfl | exact absurd rfl hb
theorem execC_sim (H : CfgOk P C (okK G)) (HD : DrawSim P C (okK G) G) {rc : Rec} (hrg : RecGrow rc) (hc : CallSim P (okK G) G rc) (hr : RoundSim P (okK G) G rc) (hcode : CodeSim P (okK G) G rc) (fid : FuncId) (b : Frame) (hb : b.fn = fid) (n0 : Nat) :
    ∀ (c : Code) (β : Bij) (own : Nat → Option Nat) (s : St) (w : World) (e : Env) (t : Array Value) (ds : List Deferred),
    SR (okK G) β own s.get w → s.WF → Glob β G → ER β e t → okc G c = true → InRound b β s → Marks n0 ds own w → n0 ≤ w.heap.size → (execC C rc fid c e s).All (fun x => Free β s x.2.2) →
    CodeRes P (okK G) β own s w (execC C rc fid c e s) b n0 (start c) t ds := by
  intro c;induction c with
  | skip =>
    intro β own s w e t ds hs hw hG he hok hir hm hn hf;exact fun k cs => ⟨.normal, e, s, β, own, w, t, ds, .ret _, hw, .refl .., hs, he, hm, .one st_skip⟩
  | label l =>
    intro β own s w e t ds hs hw hG he hok hir hm hn hf;exact fun k cs => ⟨.normal, e, s, β, own, w, t, ds, .ret _, hw, .refl .., hs, he, hm, .one st_label⟩
  | goto l =>
    intro β own s w e t ds hs hw hG he hok hir hm hn hf;exact hf.elim
  | refuse l =>
    intro β own s w e t ds hs hw hG he hok hir hm hn hf;exact hf.elim
  | exit id =>
    intro β own s w e t ds hs hw hG he hok hir hm hn hf;exact fun k cs => ⟨.exit id, e, s, β, own, w, t, ds, .ret _, hw, .refl .., hs, he, hm, ⟨k, rfl, .refl _ _⟩⟩
  | ret =>
    intro β own s w e t ds hs hw hG he hok hir hm hn hf;exact fun k cs => ⟨.ret, e, s, β, own, w, t, ds, .ret _, hw, .refl .., hs, he, hm, ⟨k, .refl _ _⟩⟩
  | region id ops d =>
    intro β own s w e t ds hs hw hG he hok hir hm hn hf k cs;simp only [okc, Bool.and_eq_true, Bool.or_eq_true, Bool.not_eq_true'] at hok;unfold execC at hf ⊢;rw [M.all_bind] at hf;cases d with
    | true =>
      simp only [cond_true] at hf ⊢;have hdr : drawOk ops = true := by simpa using hok.2
      obtain ⟨d1, d2⟩ := drew_ext hs;have hf' : (execDraw C rc ops (Region.before ops) 0 ops.toList ⟨[], []⟩ e s).All fun x => Free β s x.2 := hf
      obtain ⟨e2, s2, β2, own2, w2, t2, q1, qw, q2, q3, q4, q5⟩ := HD rc hrg hc hr b ops hdr hok.1 β own s w.drew e t (w.tape w.drawn (.order b.fn id)) d2 hw hG he hf' ds k cs;refine ⟨.normal, e2, s2, β2, own2, w2, t2, ds, q1.bind (.ret _), qw, d1.trans q2, q3, q4, hm.ext (d1.trans q2), ?_⟩;refine .head st_draw ?_;have hsch : Region.schedule (P.follows .mixedOrders) ops (w.tape w.drawn (.order b.fn id)) = Region.linearise .any ops (w.tape w.drawn (.order b.fn id)) := by simp [Region.schedule, H.mixed]
      rw [hsch];exact q5.trans (.one st_regionEnd)
    | false =>
      simp only [cond_false] at hf ⊢;have hf' : (execOps C rc ops ops.toList e s).All fun x => Free β s x.2 := hf
      obtain ⟨e2, s2, β2, own2, w2, t2, q1, qw, q2, q3, q4, q5⟩ := execOps_sim H hrg hc hr b (ops := ops) ops.toList (List.range ops.size) β own s w e t (range_ops ops) (by simpa using hok.1) hs hw hG he hf' ds k cs;exact ⟨.normal, e2, s2, β2, own2, w2, t2, ds, q1.bind (.ret _), qw, q2, q3, q4, hm.ext q2, .head st_region (q5.trans (.one st_regionEnd))⟩
  | seq x y ihx ihy =>
    intro β own s w e t ds hs hw hG he hok hir hm hn hf k cs;simp only [okc, Bool.and_eq_true] at hok;unfold execC at hf ⊢;have hf1 : (execC C rc fid x e s).All fun a => Free β s a.2.2 := free_bind hf fun a ha z hz => by
      obtain ⟨o, e1, s1⟩ := a;have g1 := grow_execC hrg x e s hw _ ha;cases o with
      | normal => exact (grow_execC hrg y e1 s1 g1.2 z hz).1.n
      | exit id => cases hz; exact Nat.le_refl _
      | ret => cases hz; exact Nat.le_refl _
    obtain ⟨o, e1, s1, β1, own1, w1, t1, ds1, h1, hw1, h2, h3, h4, h5, h6⟩ := (ihx β own s w e t ds hs hw hG he hok.1 hir hm hn hf1).before (st' := fun k => .code x :: k) (fun k cs => to_start ..) (.code y :: k) cs;have g1 := grow_execC hrg x e s hw _ h1;rw [M.all_bind] at hf;have hf2 := hf.has h1;cases o with
    | normal =>
      have hf2' : (execC C rc fid y e1 s1).All (fun a => Free β1 s1 a.2.2) := free_next (sa := fun a : Out × Env × St => a.2.2) h2 hf2;obtain ⟨o, e2, s2, β2, own2, w2, t2, ds2, q1, qw, q2, q3, q4, q5, q6⟩ := (ihy β1 own1 s1 w1 e1 t1 ds1 h3 hw1 (hG.mono h2.le) h4 hok.2 (hir.mono h2.le g1.1) h5 (Nat.le_trans hn h2.size) hf2').before (st' := fun k => .code y :: k) (fun k cs => to_start ..) k cs;refine ⟨o, e2, s2, β2, own2, w2, t2, ds2, h1.bind q1, qw, h2.trans q2, q3, q4, q5, ?_⟩;have first : Steps P (lone (fgo b t ds (start (.seq x y) k)) cs w) (lone (fgo b t1 ds1 (.code y :: k)) cs w1) := .head st_seq h6
      cases o with
      | normal => exact first.trans q6
      | exit id => exact let ⟨k1, r1, r2⟩ := q6; ⟨k1, r1, first.trans r2⟩
      | ret => exact let ⟨k1, r2⟩ := q6; ⟨k1, first.trans r2⟩
    | exit id => exact ⟨.exit id, e1, s1, β1, own1, w1, t1, ds1, h1.bind (.ret _), hw1, h2, h3, h4, h5, let ⟨k1, r1, r2⟩ := h6; ⟨k1, r1, .head st_seq r2⟩⟩
    | ret => exact ⟨.ret, e1, s1, β1, own1, w1, t1, ds1, h1.bind (.ret _), hw1, h2, h3, h4, h5, let ⟨k1, r2⟩ := h6; ⟨k1, .head st_seq r2⟩⟩
  | cond q x y ihx ihy =>
    intro β own s w e t ds hs hw hG he hok hir hm hn hf;simp only [okc, Bool.and_eq_true] at hok;have hq := rho_all hG he q hok.1.1;unfold execC at hf ⊢;split
    · rename_i hv
      rw [hv] at hq hf;refine ((ihx β own s w e t ds hs hw hG he hok.1.2 hir hm hn hf).before (st' := start (.cond q x y)) fun k cs => ?_);refine .head (st_cond (bool_inv hq)) ?_;exact to_start ..
    · rename_i hv
      rw [hv] at hq hf;refine ((ihy β own s w e t ds hs hw hG he hok.2 hir hm hn hf).before (st' := start (.cond q x y)) fun k cs => ?_);refine .head (st_cond (bool_inv hq)) ?_;exact to_start ..
    · rename_i h1 h2
      split at hf
      · rename_i hv; exact absurd hv h1
      · rename_i hv; exact absurd hv h2
      · exact hf.elim
  | block id x ih =>
    intro β own s w e t ds hs hw hG he hok hir hm hn hf k cs;unfold execC at hf ⊢;have hf1 : (execC C rc fid x e s).All fun a => Free β s a.2.2 := free_bind hf fun a ha z hz => by
      obtain ⟨o, e1, s1⟩ := a;cases o <;> (cases hz; exact Nat.le_refl _)
    obtain ⟨o, e1, s1, β1, own1, w1, t1, ds1, h1, hw1, h2, h3, h4, h5, h6⟩ := (ih β own s w e t ds hs hw hG he hok hir hm hn hf1).before (st' := fun k => .code x :: k) (fun k cs => to_start ..) (.inBlock id :: k) cs;cases o with
    | normal => exact ⟨.normal, e1, s1, β1, own1, w1, t1, ds1, h1.bind (.ret _), hw1, h2, h3, h4, h5, .head st_block (h6.trans (.one st_inBlock))⟩
    | exit i =>
      by_cases hi : i = id
      · subst hi
        refine ⟨.normal, e1, s1, β1, own1, w1, t1, ds1, h1.bind (by simp only [if_true]; exact .ret _), hw1, h2, h3, h4, h5, ?_⟩;obtain ⟨k1, r1, r2⟩ := h6;have : exitTo i k1 = some k := by rw [r1]; simp [exitTo]
        exact .head st_block (r2.trans (.one (st_exit this)))
      · refine ⟨.exit i, e1, s1, β1, own1, w1, t1, ds1, h1.bind (by simp only [if_neg hi]; exact .ret _), hw1, h2, h3, h4, h5, ?_⟩
        obtain ⟨k1, r1, r2⟩ := h6;refine ⟨k1, ?_, .head st_block r2⟩;rw [r1];have : ¬ id = i := fun h => hi h.symm
        simp [exitTo, this]
    | ret => exact ⟨.ret, e1, s1, β1, own1, w1, t1, ds1, h1.bind (.ret _), hw1, h2, h3, h4, h5, let ⟨k1, r2⟩ := h6; ⟨k1, .head st_block r2⟩⟩
  | scope x ih =>
    intro β own s w e t ds hs hw hG he hok hir hm hn hf k cs;unfold execC at hf ⊢;obtain ⟨o, e1, s1, β1, own1, w1, t1, ds1, h1, hw1, h2, h3, h4, h5, h6⟩ := (ih β own s w e t ds hs hw hG he hok hir hm hn hf).before (st' := fun k => .code x :: k) (fun k cs => to_start ..) (.inScope x :: k) cs;refine ⟨o, e1, s1, β1, own1, w1, t1, ds1, h1, hw1, h2, h3, h4, h5, ?_⟩;cases o with
    | normal => exact .head st_scope (h6.trans (.one st_inScope))
    | exit i => exact let ⟨k1, r1, r2⟩ := h6; ⟨k1, r1, .head st_scope r2⟩
    | ret => exact let ⟨k1, r2⟩ := h6; ⟨k1, .head st_scope r2⟩
  | loop x ih =>
    intro β own s w e t ds hs hw hG he hok hir hm hn hf k cs;unfold execC at hf ⊢;have hf1 : (execC C rc fid x e s).All fun a => Free β s a.2.2 := free_bind hf fun a ha z hz => by
      obtain ⟨o, e1, s1⟩ := a;have g1 := grow_execC hrg x e s hw _ ha;cases o with
      | normal =>
        obtain ⟨y, hy, hz⟩ := has_bind hz;have g2 := hrg _ _ g1.2 _ hy;unfold outOf at hz;split at hz
        · cases hz; exact g2.1.n
        · cases hz
      | exit id => cases hz; exact Nat.le_refl _
      | ret => cases hz; exact Nat.le_refl _
    obtain ⟨o, e1, s1, β1, own1, w1, t1, ds1, h1, hw1, h2, h3, h4, h5, h6⟩ := (ih β own s w e t ds hs hw hG he hok hir hm hn hf1).before (st' := fun k => .code x :: k) (fun k cs => to_start ..) (.inLoop x :: k) cs;have g1 := grow_execC hrg x e s hw _ h1;rw [M.all_bind] at hf;have hf2 := hf.has h1;cases o with
    | normal =>
      have hf3 : ((rc (.code fid (.loop x) e1) s1).bind outOf).All fun a => Free β s a.2.2 := hf2
      have hf4 : (rc (.code fid (.loop x) e1) s1).All fun a => Free β s a.2 := free_bind hf3 fun a ha z hz => by
        unfold outOf at hz;split at hz
        · cases hz; exact Nat.le_refl _
        · cases hz
      obtain ⟨o, e2, s2, β2, own2, w2, t2, ds2, q1, qw, q2, q3, q4, q5, q6⟩ := hcode β1 own1 s1 w1 fid (.loop x) e1 b t1 ds1 n0 h3 hw1 (hG.mono h2.le) h4 hok hb (hir.mono h2.le g1.1) h5 (Nat.le_trans hn h2.size) (free_next (sa := fun a : Res × St => a.2) h2 hf4) k cs;refine ⟨o, e2, s2, β2, own2, w2, t2, ds2, h1.bind q1, qw, h2.trans q2, q3, q4, q5, ?_⟩;have first : Steps P (lone (fgo b t ds (start (.loop x) k)) cs w) (lone (fgo b t1 ds1 (start (.loop x) k)) cs w1) := h6.trans (.one st_inLoop)
      cases o with
      | normal => exact first.trans q6
      | exit id => exact let ⟨k1, r1, r2⟩ := q6; ⟨k1, r1, first.trans r2⟩
      | ret => exact let ⟨k1, r2⟩ := q6; ⟨k1, first.trans r2⟩
    | exit id => exact ⟨.exit id, e1, s1, β1, own1, w1, t1, ds1, h1.bind (.ret _), hw1, h2, h3, h4, h5, let ⟨k1, r1, r2⟩ := h6; ⟨k1, r1, r2⟩⟩
    | ret => exact ⟨.ret, e1, s1, β1, own1, w1, t1, ds1, h1.bind (.ret _), hw1, h2, h3, h4, h5, let ⟨k1, r2⟩ := h6; ⟨k1, r2⟩⟩
  | rangeFunc f ps x y ihx ihy =>
    intro β own s w e t ds hs hw hG he hok hir hm hn hf k cs;simp only [okc, Bool.and_eq_true] at hok;have hfv := rho_all hG he f hok.1.1;unfold execC at hf ⊢;cases hcv : callValue (e.eval f) [.func (.yield s.n) #[] #[]] with
    | none => rw [hcv] at hf; exact hf.elim
    | some tk =>
      rw [hcv] at hf;simp only at hf ⊢;obtain ⟨mark, dblk, w1, hent, e01, s01, hm1⟩ : ∃ (mark : List Deferred) (dblk : Nat) (w1 : World),
          (∀ O, (Instr.enterLoop b.fn t ps x y b.roundOf).run P w = .ok (w1.heap.size, mark) (w1.alloc (.loop { state := .ready, pending := none, fn := b.fn, tmps := t, params := ps, assign := x, body := y, defers := dblk })) ∨ O) ∧
          Ext β own s w β own s w1 ∧ SR (okK G) β own s.get w1 ∧ Marks n0 (mark ++ ds) own w1 := by
        rcases hir with h | ⟨l, l0, h1, h2, h3⟩
        · obtain ⟨q1, q2⟩ := alloc_ext hs (.deferred (some []))
          refine ⟨[markOf w.heap.size], w.heap.size, w.alloc (.deferred (some [])), fun O => .inl ?_, q1, q2, ?_⟩
          · rw [h]
            simp only [Instr.enterLoop, Sem.run_bind, run_alloc, Result.andThen_ok, Sem.run_pure];rfl
          · obtain ⟨bs, g1, g2, g3⟩ := hm.ext q1
            refine ⟨w.heap.size :: bs, by simp [g1], ?_, fun b' hb' => ?_⟩
            · refine List.nodup_cons.2 ⟨fun hx => ?_, g2⟩
              obtain ⟨bs0, k1, k2, k3⟩ := hm;have : bs = bs0 := by
                have := g1.symm.trans k1;have hinj : ∀ a c, markOf a = markOf c → a = c := fun a c hac => by
                  simp only [markOf, Deferred.mk.injEq, Target.collected.injEq] at hac;exact hac.1
                clear g1 k1 g2 g3 k2 k3 hx;induction bs generalizing bs0 with
                | nil => cases bs0 with
                  | nil => rfl
                  | cons _ _ => simp at this
                | cons a r ih => cases bs0 with
                  | nil => simp at this
                  | cons a0 r0 =>
                    simp only [List.map_cons, List.cons.injEq] at this;rw [hinj _ _ this.1, ih r0 this.2]
              subst this;have := heap_lt (k3 _ hx).2.2;omega
            · rcases List.mem_cons.1 hb' with rfl | hb'
              · refine ⟨hn, ?_, heap_alloc_new ..⟩
                cases ho : own w.heap.size with
                | none => rfl
                | some i => have := hs.small _ _ ho; omega
              · exact g3 _ hb'
        · obtain ⟨lp, hlp⟩ : ∃ lp, s.get l = some (.loop lp) := by
            cases hg : s.get l with
            | none => rw [hg] at h3; exact h3.elim
            | some o => rw [hg] at h3; cases o <;> first | exact ⟨_, rfl⟩ | exact h3.elim
          obtain ⟨lp', hlp', _⟩ := loop_at hs h2 hlp;refine ⟨[], lp'.defers, w, fun O => .inl ?_, .refl .., hs, hm⟩;rw [h1];simp only [Instr.enterLoop, Sem.run_bind, run_getLoop hlp', Result.andThen_ok, Sem.run_pure, run_alloc]
      have hent := (hent False).resolve_right id;let alp : ALoop := { state := .ready, pending := none, fn := fid, tmps := e, params := ps, assign := x, body := y }
      let lp' : Loop := { state := .ready, pending := none, fn := b.fn, tmps := t, params := ps, assign := x, body := y, defers := dblk }
      have gnew : Grow s (s.new (.loop alp)) := .new s hw _;have hfr0 : (rc tk (s.new (.loop alp))).All fun a => Free β s a.2 := free_bind hf fun a ha z hz => by
        have g1 := hrg _ _ (hw.new _) _ ha;exact (grow_loopEnd g1.2 hz).1.n
      have hfreeN : Free β s (s.new (.loop alp)) := by
        obtain ⟨a, ha⟩ := M.All.some hfr0;exact (hfr0.has ha).left (hrg _ _ (hw.new _) _ ha).1.n
      have hle1 : β.le (β.setObj s.n w1.heap.size) := Bij.le_setObj (hfreeN.obj Z0x);have hlr : LoopR (β.setObj s.n w1.heap.size) (okK G) alp lp' := ⟨rfl, rfl, hb, he.mono hle1, rfl, rfl, rfl, hok.1.2, hok.2⟩;obtain ⟨e12, s12⟩ := new_obj (w := w1) (s' := s.new (.loop alp)) s01 hfreeN (.loop alp) (.loop lp') Z0x ⟨lp', rfl, hlr⟩;generalize hβ1 : β.setObj s.n w1.heap.size = β1 at hle1 hlr e12 s12
      have hl1 : β1.obj s.n = some w1.heap.size := by rw [← hβ1]; exact setObj_at ..
      generalize hown1 : upd own w1.heap.size (some s.n) = own1 at e12 s12
      have e02 := e01.trans e12;have hm2 := hm1.ext e12;have hG1 := hG.mono e02.le;generalize hw2 : w1.alloc (.loop lp') = w2 at *
      have hargs : VRs β1 [.func (.yield s.n) #[] #[]] (#[Value.func (.yield w1.heap.size) #[] #[]] : Array Value).toList := .one (.func (.yield hl1) .nil .nil);have hca := value_sim (P := P) (w := w2) (hfv.mono e02.le) hargs hcv;let tg : Sem Next := do let d ← resolve (feval t) { callee := .value f, args := #[.const (.func (.yield w1.heap.size) #[] #[])], argTypes := #[] } 0; invoke d.target d.args
      have htg : tg = (do let d ← Deferred.ofValue (feval t f) #[Value.func (.yield w1.heap.size) #[] #[]]; invoke d.target d.args) := by simp [tg, resolve, feval]
      rw [← htg] at hca;have hf1 : (rc tk (s.new (.loop alp))).All fun a => Free β1 (s.new (.loop alp)) a.2 := free_next (sa := fun a : Res × St => a.2) e02 hfr0
      have hmid : ∃ v s3 β3 own3 w3 v', (rc tk (s.new (.loop alp))).Has (.val v, s3) ∧ Ext β1 own1 (s.new (.loop alp)) w2 β3 own3 s3 w3 ∧ SR (okK G) β3 own3 s3.get w3 ∧
          Steps P (lone (fgo b t ds (.code (.rangeFunc f ps x y) :: k)) cs w) (lone ((fgo b t (mark ++ ds) (.inRangeFunc w1.heap.size :: k)).finish v') cs w3) := by
        cases tk with
        | code _ _ _ => exact hca.elim
        | call g args =>
          obtain ⟨args', ha, hrun⟩ := hca;obtain ⟨v, s', β', own', w', v', h1, h2, h3, h4, h5, h6⟩ := hc _ _ _ _ _ _ args' s12 (hw.new _) hG1 ha hf1 (fgo b t (mark ++ ds) (.inRangeFunc w1.heap.size :: k) :: cs);exact ⟨v, s', β', own', w', v', h1, h2, h3, .head (st_rangeFunc hent rfl (hrun.trans h5)) h6.steps⟩
        | round l args =>
          obtain ⟨l', args', hl, ha, hrun⟩ := hca;obtain ⟨v, s', β', own', w', v', lp2, h1, h2, h3, h4, h5, h6, h7⟩ := hr _ _ _ _ _ _ _ args' s12 (hw.new _) hG1 ha hl hf1 (fgo b t (mark ++ ds) (.inRangeFunc w1.heap.size :: k)) cs;exact ⟨v, s', β', own', w', v', h1, h2, h3, .head (st_rangeFuncR hent rfl (hrun.trans (yield_sim h5 h6))) h7⟩
      obtain ⟨v, s3, β3, own3, w3, v', hh, e23, s23, hst⟩ := hmid;have e03 := e02.trans e23;have hw3 := (hrg _ _ (hw.new _) _ hh).2;rw [M.all_bind] at hf;have hf3 := hf.has hh;unfold loopEnd at hf3;dsimp only at hf3;have hend : ∀ (o : Out) (jump : Option Code) (lp3 : ALoop), s3.get s.n = some (.loop lp3) → lp3.state ≠ .busy → lp3.pending = jump → jumpOf o = jump →
          (loopEnd s.n e (.val v, s3)) = .ret (o, e, s3.set s.n (.loop { lp3 with state := .exhausted })) →
          ∃ o e' s' β' own' w' t' ds', ((rc tk (s.new (.loop alp))).bind (loopEnd s.n e)).Has (o, e', s') ∧ s'.WF ∧ Ext β own s w β' own' s' w' ∧ SR (okK G) β' own' s'.get w' ∧ ER β' e' t' ∧ Marks n0 ds' own' w' ∧ Goes P b (start (.rangeFunc f ps x y)) t ds w o t' ds' w' k cs := by
        intro o jump lp3 hg hbusy hp hj hle;obtain ⟨lp3', hh3, hr3⟩ := loop_at s23 (e23.le.1 _ _ hl1) hg;obtain ⟨w4, r1, r2, r3⟩ := set_loop (P := P) s23 hw3 (e23.le.1 _ _ hl1) hg hh3 (lp1 := { lp3 with state := .exhausted }) (lp1' := { lp3' with state := .exhausted })
          ⟨rfl, hr3.pending, hr3.fn, hr3.tmps, hr3.params, hr3.assign, hr3.body, hr3.ok1, hr3.ok2⟩
        have hrun : (Instr.endLoop w1.heap.size).run P w3 = .ok jump w4 := by
          have hb2 : (lp3'.state == LoopState.busy) = false := by
            rw [hr3.state];cases hst : lp3.state <;> first | rfl | exact absurd hst hbusy
          simp only [Instr.endLoop, Sem.run_bind, run_getLoop hh3, Result.andThen_ok, hb2];have hpend : lp3'.pending = jump := hr3.pending.trans hp;rw [hpend] at r1;simp [r1, hpend]
        have e04 := e03.trans r2;refine ⟨o, e, _, β3, own3, w4, t, mark ++ ds, hh.bind (by rw [hle]; exact .ret _), hw3.set hg, e04, r3, he.mono e04.le, (hm2.ext e23).ext r2, ?_⟩;have fin : Steps P (lone (fgo b t ds (start (.rangeFunc f ps x y) k)) cs w) (lone (fgo b t (mark ++ ds) ((jump.map Item.code).toList ++ k)) cs w4) :=
          hst.trans (.one (st_endRange hrun))
        subst hj;cases o with
        | normal => exact fin
        | exit id => exact ⟨k, rfl, fin⟩
        | ret => exact ⟨k, fin⟩
      split at hf3
      · rename_i lp3 hg
        split at hf3
        · exact hf3.elim
        · rename_i hbusy
          split at hf3
          · rename_i hp
            exact hend .normal none lp3 hg (fun h => hbusy h) hp rfl (loopEnd_eq hg hbusy hp)
          · rename_i hp
            exact hend .ret (some .ret) lp3 hg (fun h => hbusy h) hp rfl (loopEnd_eq hg hbusy hp)
          · rename_i id hp
            exact hend (.exit id) (some (.exit id)) lp3 hg (fun h => hbusy h) hp rfl (loopEnd_eq hg hbusy hp)
          · exact hf3.elim
      · exact hf3.elim
end
end Go.Ai
/-
  The interpreter's run stands for the machine's: calls and rounds, by the number of levels.
-/
namespace Go.Ai
theorem Env.n_putL : ∀ (vs : List Value) (k : Nat) (e : Env), (Env.putL k vs e).n = e.n
 | [], _, _ => rfl
 | _ :: r, k, e => by simp only [Env.putL]; rw [Env.n_putL r]; rfl
theorem Env.get_putL : ∀ (vs : List Value) (k : Nat) (e : Env) (j : Nat), j < e.n → (Env.putL k vs e).get j = if k ≤ j then (vs[j - k]?).getD (e.get j) else e.get j
  | [], k, e, j, hj => by simp [Env.putL]
  | v :: r, k, e, j, hj => by
    simp only [Env.putL];rw [Env.get_putL r (k + 1) (e.put k v) j hj, Env.get_put];by_cases h1 : k + 1 ≤ j
    · have hne : ¬ (j = k ∧ k < e.n) := by omega
      rw [if_pos h1, if_neg hne, if_pos (show k ≤ j by omega)];obtain ⟨m, rfl⟩ : ∃ m, j = k + 1 + m := ⟨j - (k + 1), Z4⟩;rw [show k + 1 + m - (k + 1) = m from Z4, show k + 1 + m - k = m + 1 from Z4];rfl
    · rw [if_neg h1]
      by_cases h2 : j = k
      · subst h2
        rw [if_pos ⟨rfl, hj⟩, if_pos (Nat.le_refl _)];simp
      · rw [if_neg (fun h => h2 h.1), if_neg Z4]
section
variable {P : Program} {C : Cfg} {β : Bij} {own : Nat → Option Nat} {s : St} {w : World} {G : Nat}
theorem er_start {args : List Value} {args' : Array Value} (h : VRs β args args'.toList) (n : Nat) : ER β (Env.start n args) (args' ++ Array.replicate (n - args'.size) undef) := by
  have hlen : args'.size = args.length := by have := h.length; simpa using this
  refine ⟨?_, fun j hj => ?_⟩
  · simp only [Env.start, Env.n_putL, Array.size_append, Array.size_replicate]
    split <;> omega
  · simp only [Env.start, Env.n_putL] at hj
    simp only [Env.start];rw [Env.get_putL _ _ _ _ hj, if_pos (Nat.zero_le _), Nat.sub_zero];by_cases hja : j < args.length
    · obtain ⟨v, hv⟩ : ∃ v, args[j]? = some v := ⟨args[j], by simp [hja]⟩
      obtain ⟨v', hv', hr⟩ := h.get hv;rw [hv];have : (args' ++ Array.replicate (n - args'.size) undef).getD j undef = v' := by
        have h1 : (args' ++ Array.replicate (n - args'.size) undef)[j]? = some v' := by
          rw [Array.getElem?_append_left Z4];simpa using hv'
        rw [Array.getD_eq_getD_getElem?, h1]; rfl
      rw [this]; exact hr
    · rw [List.getElem?_eq_none Z4]
      have h1 : (args' ++ Array.replicate (n - args'.size) undef).getD j undef = undef := by
        rw [Array.getD_eq_getD_getElem?, Array.getElem?_append_right Z4];cases hq : (Array.replicate (n - args'.size) undef)[j - args'.size]? with
        | none => rfl
        | some v =>
          rw [Array.getElem?_replicate] at hq;split at hq
          · cases hq; rfl
          · cases hq
      rw [h1];have : ({ n := if args.length ≤ n then n else args.length, m := T.e } : Env).get j = undef := by
        unfold Env.get;cases Nat.blt j _ <;> simp [T.get_e]
      rw [this];exact .undef β
theorem loadVar_sim {K : Code → Prop} (H : CfgOk P C K) (hs : SR K β own s.get w) {t : TypeId} {x x' v : Value} (hv : loadV C s t x = some v) (hx : VR β x x') :
  ∃ v', (do loadVar t (← asAddr x') : Sem Value).run P w = .ok v' w ∧ VR β v v' := by
 obtain ⟨v', h1, h2⟩ := load_sim H hs hv hx;refine ⟨v', ?_, h2⟩;have : ∃ a', x' = .pointer (some a') := by
  unfold loadV at hv;split at hv
  ·obtain ⟨a', e, _⟩ := ptr_plus (n := 0) hx;exact ⟨a', e⟩
  ·split at hv
   ·rename_i hd;have hi := tok_inv H hx hd;cases hi;exact ⟨_, rfl⟩
   ·cases hv
  ·cases hv
 obtain ⟨a', rfl⟩ := this;simpa [Instr.loadAt, Instr.sureAddr, asAddr] using h1
def resOne (t : Array Value) : ResultVar → Sem Value
 | .tmp j => pure (t.getD j undef)
 | .cell a ty => do loadVar ty (← asAddr (t.getD a undef))
theorem results_eq (fn : Func) (t : Array Value) : results fn t = (do let vs ← fn.results.mapM (resOne t); pure (if h : vs.size = 1 then vs[0] else .tuple vs)) := rfl
theorem results_sim {K : Code → Prop} (H : CfgOk P C K) (hs : SR K β own s.get w) {e : Env} {t : Array Value} (he : ER β e t) : ∀ {rs : List ResultVar} {vs : List Value}, resultsV C s e rs = some vs →
    ∃ vs', (rs.mapM (resOne t)).run P w = .ok vs' w ∧ VRs β vs vs'
  | [], vs, h => by
    obtain rfl := Option.some.inj h;exact ⟨[], rfl, .nil⟩
  | .tmp j :: r, vs, h => by
    simp only [resultsV, Option.map_eq_some_iff] at h;obtain ⟨vs1, h1, rfl⟩ := h;obtain ⟨vs', h2, h3⟩ := results_sim H hs he h1;refine ⟨t.getD j undef :: vs', ?_, .cons (he.get j) h3⟩;simp only [List.mapM_cons, resOne, Sem.run_bind, Sem.run_pure, Result.andThen_ok];rw [h2]; rfl
  | .cell a ty :: r, vs, h => by
    simp only [resultsV] at h;split at h
    · rename_i v vs1 hv h1
      obtain rfl := Option.some.inj h;obtain ⟨vs', h2, h3⟩ := results_sim H hs he h1;obtain ⟨v', h4, h5⟩ := loadVar_sim H hs hv (he.get a);refine ⟨v' :: vs', ?_, .cons h5 h3⟩;simp only [List.mapM_cons, resOne];rw [Sem.run_bind, h4];simp only [Result.andThen_ok, Sem.run_bind];rw [h2]; rfl
    · cases h
theorem run_results {K : Code → Prop} (H : CfgOk P C K) (hs : SR K β own s.get w) {fn : Func} {e : Env} {t : Array Value} (he : ER β e t) {vs : List Value} (h : resultsV C s e fn.results.toList = some vs) :
    ∃ v', (results fn t).run P w = .ok v' w ∧ VR β (oneOrTuple vs) v' := by
  obtain ⟨vs', h1, h2⟩ := results_sim H hs he h;refine ⟨oneOrTuple vs', ?_, ?_⟩
  · rw [results_eq]
    rw [Array.mapM_eq_mapM_toList];simp only [Sem.run_bind, map_eq_pure_bind, bind_assoc, pure_bind];rw [h1];simp only [Result.andThen_ok, Sem.run_pure];congr 1
    cases vs' with
    | nil => rfl
    | cons a r => cases r with
      | nil => rfl
      | cons b r =>
        have hn : ¬ (List.toArray (a :: b :: r)).size = 1 := Z0u
        rw [dif_neg hn];rfl
  · cases h2 with
    | nil => exact .tuple .nil
    | cons hv ht => cases ht with
      | nil => exact hv
      | cons hv2 ht2 => exact .tuple (.cons hv (.cons hv2 ht2))
theorem SR.other {K : Code → Prop} {g : Nat → Option AObj} (h : SR K β own g w) {b0 : Nat} {ds : Option (List Deferred)} (h0 : w.heap[b0]? = some (.deferred ds)) (ho : own b0 = none) (O : Obj) :
  SR K β own g { w with heap := w.heap.setIfInBounds b0 O } := by
 have hoth : ∀ c, c ≠ b0 → ({ w with heap := w.heap.setIfInBounds b0 O } : World).heap[c]? = w.heap[c]? := fun c hc => by
  simp [Ne.symm hc]
 have hsz : ({ w with heap := w.heap.setIfInBounds b0 O } : World).heap.size = w.heap.size := Z0u
 refine ⟨fun i b hb => ?_, fun i hi L hL cs mv ro hc => ?_, h.loc, fun i hi L hL => by rw [hsz]; exact h.blk i hi L hL, h.one, fun b i hb => by rw [hsz]; exact h.small b i hb, h.vir, ⟨fun b j v hv => ?_, fun b n hv => ?_⟩⟩
 ·obtain ⟨h1, h2, h3⟩ := h.obj i b hb;have hne : b ≠ b0 := by rintro rfl; rw [ho] at h1; cases h1
  exact ⟨h1, by rw [hsz]; exact h2, fun o hg => by rw [hoth b hne]; exact h3 o hg⟩
 ·obtain ⟨h1, h2⟩ := h.arr i hi L hL cs mv ro hc;refine ⟨h1, fun hm => ?_⟩;obtain ⟨⟨a1, a2, c, t, fr, a3, a4⟩, h4, h5⟩ := h2 hm;have hne : L.block ≠ b0 := by intro e; rw [e, h0] at a3; cases a3
  exact ⟨⟨a1, a2, c, t, fr, by rw [hoth _ hne]; exact a3, a4⟩, by rw [hsz]; exact h4, h5⟩
 ·obtain ⟨q1, q2, q3, q4, x, q5, q6⟩ := h.ice.at_ b j v hv;have hne : b ≠ b0 := by
   rintro rfl;unfold World.cell? at q5;rw [h0] at q5;cases q5
  refine ⟨q1, by rw [hsz]; exact q2, q3, q4, x, ?_, q6⟩;rw [← q5];unfold World.cell?;rw [hoth b hne]
 ·obtain ⟨q1, q2, c, ty, fr, q3, q4⟩ := h.ice.fx b n hv;have hne : b ≠ b0 := by
   rintro rfl;rw [h0] at q3;cases q3
  exact ⟨q1, by rw [hsz]; exact q2, c, ty, fr, by rw [hoth b hne]; exact q3, q4⟩
theorem pop_marks {K : Code → Prop} {g : Nat → Option AObj} : ∀ (bs : List Nat) (w : World), SR K β own g w → bs.Nodup → (∀ b ∈ bs, own b = none ∧ w.heap[b]? = some (.deferred (some []))) →
    ∃ w', SR K β own g w' ∧ w'.heap.size = w.heap.size ∧ (∀ b, b ∉ bs → w'.heap[b]? = w.heap[b]?) ∧ w'.os = w.os ∧ w'.tape = w.tape ∧ w'.output = w.output ∧ w'.drawn = w.drawn ∧
      ∀ (fr : Frame), fr.mode = .returning → fr.defers = bs.map markOf → ∀ cs, Steps P (lone fr cs w) (lone { fr with defers := [] } cs w')
  | [], w, hs, _, _ => ⟨w, hs, rfl, fun _ _ => rfl, rfl, rfl, rfl, rfl, fun fr hm hd cs => by
      have : ({ fr with defers := [] } : Frame) = fr := by cases fr; simp at hd; subst hd; rfl
      rw [this]; exact .refl _ _⟩
  | b0 :: bs, w, hs, hn, hb => by
    obtain ⟨ho, h0⟩ := hb b0 (List.mem_cons_self ..);obtain ⟨hn1, hn2⟩ := List.nodup_cons.1 hn;have hoth : ∀ c, c ≠ b0 → ({ w with heap := w.heap.setIfInBounds b0 (.deferred none) } : World).heap[c]? = w.heap[c]? := fun c hc => by
      simp [Ne.symm hc]
    obtain ⟨w', q1, q2, q3, q4, q5, q6, q8, q7⟩ := pop_marks bs { w with heap := w.heap.setIfInBounds b0 (.deferred none) } (hs.other h0 ho _) hn2 fun b hb' => by
      have hne : b ≠ b0 := by rintro rfl; exact hn1 hb'
      obtain ⟨g1, g2⟩ := hb b (List.mem_cons_of_mem _ hb');exact ⟨g1, (hoth b hne).trans g2⟩
    refine ⟨w', q1, by simpa using q2, fun b hb' => ?_, q4, q5, q6, q8, fun fr hm hd cs => ?_⟩
    · simp only [List.mem_cons, not_or] at hb'
      rw [q3 b hb'.2, hoth b hb'.1]
    · have hrun : (Instr.takeDeferred b0).run P w = .ok [] { w with heap := w.heap.setIfInBounds b0 (.deferred none) } := by
        simp only [Instr.takeDeferred, Sem.run_bind, run_getObj h0 (fun c t fr => Z0u), Result.andThen_ok, run_setObj h0 (fun c t fr => Z0u), Sem.run_pure]
      refine .head (st_collected hm (ds := bs.map markOf) (by rw [hd]; rfl) hrun) ?_;exact q7 { fr with defers := bs.map markOf } hm rfl cs
theorem Ext.other {β' : Bij} {own' : Nat → Option Nat} {s' : St} {w1 w2 : World} (e : Ext β own s w β' own' s' w1) (h1 : w2.heap.size = w1.heap.size) (h2 : ∀ b, b < w.heap.size → w2.heap[b]? = w1.heap[b]?) (h3 : w2.os = w1.os) (h4 : w2.tape = w1.tape) (h5 : w2.output = w1.output) (h6 : w2.drawn = w1.drawn := by first | rfl | assumption) :
  Ext β own s w β' own' s' w2 :=
 ⟨e.le, e.new, e.nle, e.aframe, by rw [h1]; exact e.size, fun b hb ho => let ⟨q1, q2⟩ := e.cframe b hb ho; ⟨q1, (h2 b hb).trans q2⟩, h3.trans e.os, h4.trans e.tape, h5.trans e.output, e.keep, e.virn, by rw [h6]; exact e.drawn⟩
theorem istep_sim (H : CfgOk P C (okK G)) (HD : DrawSim P C (okK G) G) {rc : Rec} (hrg : RecGrow rc) (ihc : CallSim P (okK G) G rc) (ihr : RoundSim P (okK G) G rc) (ihk : CodeSim P (okK G) G rc) :
    CallSim P (okK G) G (istep C rc) ∧ RoundSim P (okK G) G (istep C rc) ∧ CodeSim P (okK G) G (istep C rc) := by
    refine ⟨?_, ?_, ?_⟩
    ·
      intro β own s w f args args' hs hw hG ha hf cs;cases hfn : C.fn f with
      | none => simp only [istep, hfn] at hf; exact hf.elim
      | some fn =>
      cases hbd : fn.body with
      | none => simp only [istep, hfn, hbd] at hf; exact hf.elim
      | some c =>
      have heq : istep C rc (.call f args) s = (execC C (rc) f c (Env.start fn.ntmps args) s).bind (callEnd C fn) := by simp only [istep, hfn, hbd]
      rw [heq] at hf ⊢;obtain ⟨p1, p2, p3⟩ := H.fn f fn hfn;let b : Frame := { fn := f, tmps := #[], todo := [], defers := [], mode := .run, kind := .normal }
      have hf1 : (execC C (rc) f c (Env.start fn.ntmps args) s).All fun a => Free β s a.2.2 := free_bind hf fun a _ z hz => by
        unfold callEnd at hz;split at hz
        · cases hz
        · split at hz
          · cases hz; exact Nat.le_refl _
          · cases hz
      obtain ⟨o, e1, s1, β1, own1, w1, t1, ds1, h1, hw1, h2, h3, h4, h5, h6⟩ := (execC_sim H HD hrg ihc ihr ihk f b rfl w.heap.size c β own s w (Env.start fn.ntmps args) _ [] hs hw hG (er_start ha fn.ntmps) (p3 c hbd) (.inl rfl) (.nil ..) (Nat.le_refl _) hf1).before (st' := fun k => .code c :: k) (fun k cs => to_start ..) [] cs;obtain ⟨bs, rfl, m2, m3⟩ := h5;obtain ⟨w2, q1, q2, q3, q4, q5, q6, q8, q7⟩ := pop_marks (P := P) bs w1 h3 m2 fun b hb => (m3 b hb).2
      have e2 : Ext β own s w β1 own1 s1 w2 := h2.other q2 (fun b hb => q3 b fun hm => by have := (m3 b hm).1; omega) q4 q5 q6;rw [M.all_bind] at hf;have hf2 := hf.has h1;have henter : Frame.enter P f args' .normal = fgo b (args' ++ Array.replicate (fn.ntmps - args'.size) undef) [] [.code c] := by simp [Frame.enter, fgo, p1, hbd, b]
      have hcf := callFunc_sim (w := w) H hfn hbd args';have fin : (callEnd C fn (o, e1, s1)).All (fun x => Free β s x.2) → (∃ k1, Steps P (lone (Frame.enter P f args' .normal) cs w) (lone { fgo b t1 (bs.map markOf) k1 with mode := .returning } cs w1)) → (callEnd C fn (o, e1, s1) = match resultsV C s1 e1 fn.results.toList with
            | some vs => .ret (.val (oneOrTuple vs), s1)
            | none => .fail) →
          ∃ v s' β' own' w' v', ((execC C (rc) f c (Env.start fn.ntmps args) s).bind (callEnd C fn)).Has (.val v, s') ∧ Ext β own s w β' own' s' w' ∧ SR (okK G) β' own' s'.get w' ∧ VR β' v v' ∧
            (callFunc f args').run P w = .ok (.enter f args') w ∧ CallsTo P cs f args' w v' w' := by
        intro hall hst hce;rw [hce] at hall;cases hrs : resultsV C s1 e1 fn.results.toList with
        | none => rw [hrs] at hall; exact hall.elim
        | some vs =>
          obtain ⟨v', r1, r2⟩ := run_results H q1 h4 hrs;refine ⟨oneOrTuple vs, s1, β1, own1, w2, v', h1.bind (by rw [hce, hrs]; exact .ret _), e2, q1, r2, hcf, ?_⟩;obtain ⟨k1, hk⟩ := hst;exact ⟨_, hk.trans (q7 _ rfl rfl cs), rfl, rfl, rfl, rfl, fn, p1, r1⟩
      cases o with
      | exit id => exact hf2.elim
      | normal =>
        refine fin hf2 ⟨[], ?_⟩ rfl;rw [henter];exact h6.trans (.one (st_end rfl))
      | ret =>
        refine fin hf2 ?_ rfl;rw [henter];obtain ⟨k1, hk⟩ := h6;exact ⟨_, hk.trans (.one (st_ret rfl))⟩
    ·
      intro β own s w l l' args args' hs hw hG ha hl hf cc cs;cases hg : s.get l with
      | none => simp only [istep, hg] at hf; exact hf.elim
      | some ob =>
      cases ob with
      | loop lp =>
        obtain ⟨lp', hh, hlr⟩ := loop_at hs hl hg;by_cases hlen : args.length = lp.params.size
        · have heq : istep C rc (.round l args) s = (execC C (rc) lp.fn lp.assign (Env.putA lp.params.toList args lp.tmps) s).bind (roundBody C (rc) l lp) := by simp only [istep, hg, hlen, if_true]
          rw [heq] at hf ⊢;have hsz : args'.size = lp'.params.size := by have := ha.length; rw [hlr.params]; simpa [← hlen] using this
          let b : Frame := { fn := lp'.fn, tmps := #[], todo := [], defers := [], mode := .run, kind := .normal, roundOf := some l' }
          have hir : InRound b β s := .inr ⟨l, l', rfl, hl, by rw [hg]; trivial⟩;have her : ER β (Env.putA lp.params.toList args lp.tmps) (roundTmps lp' args') := by
            have := er_putA lp.params.toList args args'.toList lp.tmps lp'.tmps ha hlr.tmps;have e1 : roundTmps lp' args' = (lp.params.toList.zip args'.toList).foldl (fun tmps (x : Tmp × Value) => tmps.setIfInBounds x.1 x.2) lp'.tmps := by
              unfold roundTmps;rw [← Array.foldl_toList, Array.toList_zip, hlr.params]
            rw [e1]; exact this
          have hf1 : (execC C (rc) lp.fn lp.assign (Env.putA lp.params.toList args lp.tmps) s).All fun a => Free β s a.2.2 := free_bind hf fun a ha z hz => by
            have g := grow_execC hrg _ _ _ hw a ha;obtain ⟨o, e1, s1⟩ := a;unfold roundBody at hz;cases o with
            | exit id => cases hz
            | ret => cases hz
            | normal =>
              dsimp only at hz;split at hz
              · rename_i lp1 hg1
                split at hz
                · obtain ⟨y, hy, hz⟩ := has_bind hz
                  have g1 := grow_execC hrg _ _ _ (g.2.set hg1) y hy;unfold roundEnd at hz;obtain ⟨o2, e2, s2⟩ := y;dsimp only at hz;split at hz
                  · cases hz; exact g1.1.n
                  · cases hz
                · cases hz
              · cases hz
          obtain ⟨o, e1, s1, β1, own1, w1, t1, ds1, h1, hw1, h2, h3, h4, h5, h6⟩ := (execC_sim H HD hrg ihc ihr ihk lp.fn b hlr.fn 0 lp.assign β own s w _ _ [] hs hw hG her hlr.ok1 hir (.nil ..) (Nat.zero_le _) hf1).before (st' := fun k => .code lp.assign :: k) (fun k cs => to_start ..) [.beginRound, .code lp.body] (cc :: cs);rw [M.all_bind] at hf;have hf2 := hf.has h1;have g1 := grow_execC hrg _ _ _ hw _ h1;cases o with
          | exit id => exact hf2.elim
          | ret => exact hf2.elim
          | normal =>
            have hrb : roundBody C (rc) l lp (.normal, e1, s1) = match s1.get l with
              | some (.loop lp1) =>
                match lp1.state with
                | .ready => (execC C (rc) lp.fn lp.body e1 (s1.set l (.loop { lp1 with state := .busy }))).bind (roundEnd l)
                | _ => .fail
              | _ => .fail := rfl
            rw [hrb] at hf2;cases hg1 : s1.get l with
            | none => rw [hg1] at hf2; exact hf2.elim
            | some ob =>
            rw [hg1] at hf2;cases ob with
            | loop lp1 =>
              dsimp only at hf2;cases hst : lp1.state with
              | ready =>
                rw [hst] at hf2;dsimp only at hf2;obtain ⟨lp1', hh1, hlr1⟩ := loop_at h3 (h2.le.1 _ _ hl) hg1;obtain ⟨w2, r1, r2, r3⟩ := set_loop (P := P) h3 hw1 (h2.le.1 _ _ hl) hg1 hh1 (lp1 := { lp1 with state := .busy }) (lp1' := { lp1' with state := .busy })
                  ⟨rfl, hlr1.pending, hlr1.fn, hlr1.tmps, hlr1.params, hlr1.assign, hlr1.body, hlr1.ok1, hlr1.ok2⟩
                have hbeg : (Instr.beginRound l').run P w1 = .ok () w2 := by
                  simp only [Instr.beginRound, Sem.run_bind, run_getLoop hh1, Result.andThen_ok, r1, hlr1.state, hst];rfl
                have e02 := h2.trans r2;have hw2 : (s1.set l (.loop { lp1 with state := .busy })).WF := hw1.set hg1;have hf3 : (execC C (rc) lp.fn lp.body e1 (s1.set l (.loop { lp1 with state := .busy }))).All fun a => Free β s a.2.2 := free_bind hf2 fun a ha z hz => by
                  obtain ⟨o2, e2, s2⟩ := a;unfold roundEnd at hz;dsimp only at hz;split at hz
                  · cases hz; exact Nat.le_refl _
                  · cases hz
                have hf4 : (execC C (rc) lp.fn lp.body e1 (s1.set l (.loop { lp1 with state := .busy }))).All fun a => Free β1 (s1.set l (.loop { lp1 with state := .busy })) a.2.2 := free_next (sa := fun a : Out × Env × St => a.2.2) e02 hf3
                obtain ⟨o, e3, s3, β3, own3, w3, t3, ds3, k1, kw, k2, k3, k4, k5, k6⟩ := (execC_sim H HD hrg ihc ihr ihk lp.fn b hlr.fn 0 lp.body β1 own1 _ w2 e1 t1 ds1 r3 hw2 (hG.mono h2.le) h4 hlr.ok2
                  (.inr ⟨l, l', rfl, h2.le.1 _ _ hl, by rw [St.get_set, if_pos rfl]; trivial⟩) (h5.ext r2) (Nat.zero_le _) hf4).before (st' := fun k => .code lp.body :: k) (fun k cs => to_start ..) [] (cc :: cs)
                have e03 := e02.trans k2;rw [M.all_bind] at hf2;have hf5 := hf2.has k1;have hre : roundEnd l (o, e3, s3) = match s3.get l with
                  | some (.loop lp) => .ret (.val (.bool (jumpOf o).isNone), s3.set l (.loop { lp with state := if (jumpOf o).isNone then .ready else .done, pending := jumpOf o }))
                  | _ => .fail := rfl
                rw [hre] at hf5;cases hg3 : s3.get l with
                | none => rw [hg3] at hf5; exact hf5.elim
                | some ob =>
                rw [hg3] at hf5;cases ob with
                | loop lp3 =>
                  obtain ⟨lp3', hh3, hlr3⟩ := loop_at k3 (e03.le.1 _ _ hl) hg3;obtain ⟨w4, u1, u2, u3⟩ := set_loop (P := P) k3 kw (e03.le.1 _ _ hl) hg3 hh3 (lp1 := { lp3 with state := if (jumpOf o).isNone then .ready else .done, pending := jumpOf o })
                    (lp1' := { lp3' with state := if (jumpOf o).isNone then .ready else .done, pending := jumpOf o })
                    ⟨rfl, rfl, hlr3.fn, hlr3.tmps, hlr3.params, hlr3.assign, hlr3.body, hlr3.ok1, hlr3.ok2⟩
                  have hend : (Instr.endRound l' (jumpOf o)).run P w3 = .ok (.bool (jumpOf o).isNone) w4 := by
                    simp only [Instr.endRound, Sem.run_bind, run_getLoop hh3, Result.andThen_ok, u1, Sem.run_pure]
                  have hround : Frame.round l' lp'.fn (roundTmps lp' args') lp'.assign lp'.body .normal = fgo b (roundTmps lp' args') [] [.code lp.assign, .beginRound, .code lp.body] := by
                    rw [hlr.assign, hlr.body]; rfl
                  refine ⟨.bool (jumpOf o).isNone, _, β3, own3, w4, .bool (jumpOf o).isNone, lp', h1.bind (by rw [hrb, hg1]; dsimp only; rw [hst]; dsimp only; exact k1.bind (by rw [hre, hg3]; exact .ret _)), e03.trans u2, u3, .bool _, hh, hsz, ?_⟩;rw [hround];refine h6.trans (.head (st_beginRound rfl hbeg) ?_);cases o with
                  | normal => exact k6.trans (.one (st_leave rfl rfl hend (.inl ⟨rfl, rfl⟩)))
                  | ret =>
                    obtain ⟨kk, hk⟩ := k6;exact hk.trans (.one (st_leave rfl rfl hend (.inr (.inl ⟨rfl, kk, rfl⟩))))
                  | exit id =>
                    obtain ⟨kk, hx, hk⟩ := k6;exact hk.trans (.one (st_leave rfl rfl hend (.inr (.inr ⟨id, kk, rfl, rfl, hx⟩))))
                | _ => exact hf5.elim
              | _ => rw [hst] at hf2; exact hf2.elim
            | _ => exact hf2.elim
        · simp only [istep, hg, hlen, if_false] at hf; exact hf.elim
      | _ => simp only [istep, hg] at hf; exact hf.elim
    ·
      intro β own s w fid c e b t ds n0 hs hw hG he hok hb hir hm hn hf k cs;have heq : istep C rc (.code fid c e) s = (execC C (rc) fid c e s).bind fun (o, e', s') => .ret (.out o e', s') := rfl
      rw [heq] at hf ⊢;have hf1 : (execC C (rc) fid c e s).All fun a => Free β s a.2.2 := free_bind hf fun a _ z hz => by
        obtain ⟨o, e1, s1⟩ := a;cases hz; exact Nat.le_refl _
      obtain ⟨o, e1, s1, β1, own1, w1, t1, ds1, h1, hw1, h2, h3, h4, h5, h6⟩ := execC_sim H HD hrg ihc ihr ihk fid b hb n0 c β own s w e t ds hs hw hG he hok hir hm hn hf1 k cs;exact ⟨o, e1, s1, β1, own1, w1, t1, ds1, M.Has.bind (f := outOf) (a := (Res.out o e1, s1)) (M.Has.bind h1 (.ret _)) (.ret _), hw1, h2, h3, h4, h5, h6⟩
theorem run_sim (H : CfgOk P C (okK G)) (HD : DrawSim P C (okK G) G) : ∀ n, CallSim P (okK G) G (run C n) ∧ RoundSim P (okK G) G (run C n) ∧ CodeSim P (okK G) G (run C n)
  | 0 => ⟨fun _ _ _ _ _ _ _ _ _ _ _ hf => hf.elim, fun _ _ _ _ _ _ _ _ _ _ _ _ _ hf => hf.elim, fun _ _ _ _ _ _ _ _ _ _ _ _ _ _ _ _ _ _ _ _ hf => hf.elim⟩
  | n + 1 =>
    let ⟨ihc, ihr, ihk⟩ := run_sim H HD n
    istep_sim H HD (grow_run n) ihc ihr ihk
end
end Go.Ai
/-
  The operations that leave memory alone, and those that make something new: what they hang on.
-/
namespace Go.Ai
theorem SR.weak {K : Code → Prop} {β : Bij} {own : Nat → Option Nat} {g g' : Nat → Option AObj} {w : World} (h : SR K β own g w) (hg : ∀ i, β.dom i → g' i = g i ∨ g' i = none) : SR K β own g' w where
 obj i b hb := by
  obtain ⟨h1, h2, h3⟩ := h.obj i b hb;refine ⟨h1, h2, fun o ho => ?_⟩;rcases hg i (.inl ⟨b, hb⟩) with e | e
  ·exact h3 o (by rw [← e]; exact ho)
  ·rw [e] at ho; cases ho
 arr i hi L hL cs mv ro hc := by
  rcases hg i (.inr ⟨hi, L, hL⟩) with e | e
  ·exact h.arr i hi L hL cs mv ro (by rw [← e]; exact hc)
  ·rw [e] at hc; cases hc
 loc := h.loc
 blk := h.blk
 one := h.one
 small := h.small
 vir := h.vir
 ice := h.ice
section
variable {P : Program} {C : Cfg} {K : Code → Prop} (H : CfgOk P C K) {β : Bij} {own : Nat → Option Nat} {s s' : St} {w : World} {ok : Operand → Bool}
theorem pureSame {m : Sem Value} {n : Sem Next} {v : Value} (h : ∃ v', m.run P w = .ok v' w ∧ VR β v v') (hn : n = (do pure (.value (← m)))) : s = s ∧ ∃ v', n.run P w = .ok (.value v') w ∧ VR β v v' := by
 obtain ⟨v', h1, h2⟩ := h;exact ⟨rfl, v', by rw [hn]; simp [h1], h2⟩
include H in
theorem builtin_pure (hs : SR K β own s.get w) {b : Builtin} {ts : Array TypeId} {ty : TypeId} {cc : Array Bool} {args0 : Array Operand} (hc : Z2l C (.call { callee := .builtin b, args := args0, argTypes := ts }) = 0 ∨ Z2l C (.call { callee := .builtin b, args := args0, argTypes := ts }) = 2)
  {args : List Value} {args' : Array Value} {v : Value} (hv : builtinV C s b ts args = some (v, s')) (ha : VRs β args args'.toList) :
  s' = s ∧ ∃ v', (builtin b ts ty cc args').run P w = .ok (.value v') w ∧ VR β v v' := by
 have arr1 : ∀ {x : Value}, args'.toList = [x] → args' = #[x] := fun h => by cases args'; simp_all
 unfold builtinV at hv
 split at hv
 ·rename_i t x ht
  rw [Option.map_eq_some_iff] at hv
  obtain ⟨r, hr, e⟩ := hv
  obtain ⟨rfl, rfl⟩ := Prod.mk.inj e
  obtain ⟨x', l', e, hx, hl⟩ := ha.cons_inv
  obtain rfl := hl.nil_inv
  rw [arr1 e]
  obtain ⟨v', h1, h2⟩ := lenB_sim (P := P) (ty := ty) H hs hr hx
  have hlen : (Builtin.len_ ts ty #[x']).run P w = (Builtin.len_ #[t] ty #[x']).run P w := by
   simp only [Builtin.len_, ht]; rfl
  exact pureSame ⟨v', by rw [hlen]; exact h1, h2⟩ rfl
 ·simp [Z2l] at hc
 ·simp [Z2l] at hc
 ·simp [Z2l] at hc
 ·simp [Z2l] at hc
 ·rename_i x r
  rw [Option.map_eq_some_iff] at hv
  obtain ⟨q, hr, e0⟩ := hv
  obtain ⟨rfl, rfl⟩ := Prod.mk.inj e0
  obtain ⟨x', l', e, hx, hl⟩ := ha.cons_inv
  obtain ⟨v', h1, h2⟩ := foldl_sim (P := P) (w := w) (f := max2V) (g := Builtin.max2) (fun x y z h => by
   unfold max2V at h
   split at h
   ·split at h
    ·rename_i e; subst e
     obtain rfl := Option.some.inj h
     exact ⟨by simp [Builtin.max2], .int _ _, fun c hc => int_inv hc, fun c hc => int_inv hc⟩
    ·cases h
   ·cases h) _ _ _ _ _ hl hx hr
  refine pureSame ⟨v', ?_, h2⟩ (m := Builtin.max_ ts ty args') rfl
  simp only [Builtin.max_, e]
  exact h1
 ·rename_i x r
  rw [Option.map_eq_some_iff] at hv
  obtain ⟨q, hr, e0⟩ := hv
  obtain ⟨rfl, rfl⟩ := Prod.mk.inj e0
  obtain ⟨x', l', e, hx, hl⟩ := ha.cons_inv
  obtain ⟨v', h1, h2⟩ := foldl_sim (P := P) (w := w) (f := min2V) (g := Builtin.min2) (fun x y z h => by
   unfold min2V at h
   split at h
   ·split at h
    ·rename_i e; subst e
     obtain rfl := Option.some.inj h
     exact ⟨by simp [Builtin.min2], .int _ _, fun c hc => int_inv hc, fun c hc => int_inv hc⟩
    ·cases h
   ·cases h) _ _ _ _ _ hl hx hr
  refine pureSame ⟨v', ?_, h2⟩ (m := Builtin.min_ ts ty args') rfl
  simp only [Builtin.min_, e]
  exact h1
 ·rename_i t x ht
  rw [Option.map_eq_some_iff] at hv
  obtain ⟨r, hr, e⟩ := hv
  obtain ⟨rfl, rfl⟩ := Prod.mk.inj e
  obtain ⟨x', l', e, hx, hl⟩ := ha.cons_inv
  obtain rfl := hl.nil_inv
  rw [arr1 e]
  obtain ⟨v', h1, h2⟩ := capB_sim (P := P) (ty := ty) H hr hx
  have hcap : (Builtin.cap_ ts ty #[x']).run P w = (Builtin.cap_ #[t] ty #[x']).run P w := by
   simp only [Builtin.cap_, ht]; rfl
  exact pureSame ⟨v', by rw [hcap]; exact h1, h2⟩ rfl
 ·cases hv
include H in
theorem evalOp_pure (hs : SR K β own s.get w) {ρ ρ' : Operand → Value} (hρ : ∀ x, ok x = true → VR β (ρ x) (ρ' x)) {o : Oper} (hok : o.op.operands.all ok = true) (hc : Z2l C o.op = 0 ∨ Z2l C o.op = 2) {v : Value} (hv : Z2m C ρ s o.op = some (v, s')) :
    s' = s ∧ ∃ v', (execOp ρ' o).run P w = .ok (.value v') w ∧ VR β v v' := by
  obtain ⟨dst, op, type, pos, after, guard⟩ := o
  simp only at hv hok hc
  unfold Z2m at hv
  unfold execOp
  simp only
  split at hv
  · rename_i x
    obtain ⟨rfl, rfl⟩ := Prod.mk.inj (Option.some.inj hv)
    have hx := hρ x (by simpa [Op.operands] using hok)
    exact ⟨rfl, _, rfl, hx⟩
  · rename_i x
    obtain ⟨rfl, rfl⟩ := Prod.mk.inj (Option.some.inj hv)
    have hx := hρ x (by simpa [Op.operands] using hok)
    exact ⟨rfl, _, rfl, hx⟩
  · rename_i c a b
    simp only [Op.operands, List.all_toArray, List.all_cons, List.all_nil, Bool.and_eq_true] at hok
    simp at hok
    obtain ⟨h1, h2, h3⟩ := hok
    split at hv
    · rename_i t ht
      obtain ⟨rfl, rfl⟩ := Prod.mk.inj (Option.some.inj hv)
      have hc := hρ c h1
      rw [ht] at hc
      have hc' := bool_inv hc
      refine ⟨rfl, if t then ρ' a else ρ' b, (by simp [hc', asBool]), ?_⟩
      cases t
      · exact hρ b h3
      · exact hρ a h2
    · cases hv
  · simp [Z2l] at hc
  · simp [Z2l] at hc
  · rename_i t parts
    rw [Option.map_eq_some_iff] at hv
    obtain ⟨r, hr, e⟩ := hv
    obtain ⟨rfl, rfl⟩ := Prod.mk.inj e
    have hall : (parts.toList.map (·.2)).all (ok) = true := by
      simp only [Op.operands] at hok
      simpa using hok
    have := build_sim (P := P) (β := β) (w := w) (parts' := parts.map fun (i, x) => (i, ρ' x)) H hr (by simp [Function.comp_def]) (by
      have := vrs_map hρ hall
      simpa [Function.comp_def] using this)
    exact pureSame this rfl
  · simp [Z2l] at hc
  · rename_i t a
    rw [Option.map_eq_some_iff] at hv
    obtain ⟨r, hr, e⟩ := hv
    obtain ⟨rfl, rfl⟩ := Prod.mk.inj e
    exact pureSame (load_sim H hs hr (hρ a (by simpa [Op.operands] using hok))) rfl
  · simp [Z2l] at hc
  · rename_i x
    have hx := hρ x (by simpa [Op.operands] using hok)
    have key : ∀ y, ρ' x = y → (∀ f a b, y = .func f a b → ∀ n, f ≠ .method n) → y ≠ .pointer none → y ≠ .nilIface → y ≠ .nilFunc → execOp ρ' ⟨dst, .nilCheck x, type, pos, after, guard⟩ = pure (.value y) := by
      intro y hy h1 h2 h3 h4
      simp only [execOp, hy]
      split
      · exact absurd rfl h2
      · exact absurd rfl h3
      · exact absurd rfl h4
      · exact absurd rfl (h1 _ _ _ rfl _)
      · rfl
    split at hv
    · rename_i a ha
      obtain ⟨rfl, rfl⟩ := Prod.mk.inj (Option.some.inj hv)
      rw [ha] at hx
      obtain ⟨a', e, _⟩ := ptr_plus (n := 0) hx
      rw [e] at hx
      exact ⟨rfl, _, (by have := key _ e (by intros; simp_all) (by simp) (by simp) (by simp); exact congrArg (fun m => Sem.run P m w) this), hx⟩
    · rename_i f a b ha
      obtain ⟨rfl, rfl⟩ := Prod.mk.inj (Option.some.inj hv)
      rw [ha] at hx
      generalize e : ρ' x = y at hx
      cases hx with
      | func h1 h2 h3 =>
        cases h1 with
        | same => exact ⟨rfl, _, (by have := key _ e (by intro f a b h; cases h; intro n hn; cases hn) (by simp) (by simp) (by simp); exact congrArg (fun m => Sem.run P m w) this), .func (.same _ (by intro l; simp)) h2 h3⟩
    · rename_i l a b ha
      obtain ⟨rfl, rfl⟩ := Prod.mk.inj (Option.some.inj hv)
      rw [ha] at hx
      generalize e : ρ' x = y at hx
      cases hx with
      | func h1 h2 h3 =>
        cases h1 with
        | same _ h => exact absurd rfl (h l)
        | yield h => exact ⟨rfl, _, (by have := key _ e (by intro f a b h; cases h; intro n hn; cases hn) (by simp) (by simp) (by simp); exact congrArg (fun m => Sem.run P m w) this), .func (.yield h) h2 h3⟩
    · rename_i t u ha
      obtain ⟨rfl, rfl⟩ := Prod.mk.inj (Option.some.inj hv)
      rw [ha] at hx
      generalize e : ρ' x = y at hx
      cases hx with
      | iface h => exact ⟨rfl, _, (by have := key _ e (by intros; simp_all) (by simp) (by simp) (by simp); exact congrArg (fun m => Sem.run P m w) this), .iface h⟩
    · rename_i c ha
      split at hv
      · rename_i cs hd
        obtain ⟨rfl, rfl⟩ := Prod.mk.inj (Option.some.inj hv)
        rw [ha] at hx
        have hi := tok_inv H hx hd
        generalize e : ρ' x = y at hx hi
        cases hi with
        | ptr hI => exact ⟨rfl, _, (by have := key _ e (by intros; simp_all) (by simp) (by simp) (by simp); exact congrArg (fun m => Sem.run P m w) this), hx⟩
      · cases hv
    · cases hv
  · rename_i op2 t x y yt
    rw [Option.map_eq_some_iff] at hv
    obtain ⟨r, hr, e⟩ := hv
    obtain ⟨rfl, rfl⟩ := Prod.mk.inj e
    simp [Op.operands] at hok
    exact pureSame (binV_sim (P := P) H hs (hρ x hok.1) (hρ y hok.2) hr) rfl
  · rename_i op2 t x
    rw [Option.map_eq_some_iff] at hv
    obtain ⟨r, hr, e⟩ := hv
    obtain ⟨rfl, rfl⟩ := Prod.mk.inj e
    have hx := hρ x (by simpa [Op.operands] using hok)
    exact pureSame ⟨_, unV_sim (P := P) hx hr⟩ rfl
  · rename_i a b x
    have hx := hρ x (by simpa [Op.operands] using hok)
    by_cases hst : strDst C a b = true
    · obtain ⟨e, h⟩ := convStr_pure (P := P) H hs hst hv hx
      subst e
      exact pureSame h rfl
    unfold convS at hv
    split at hv
    · rename_i h1 h2 _
      simp [Z2l, h1, h2] at hc
    · rename_i h1 h2 _
      exact absurd (by simp [strDst, h1, h2]) hst
    · rename_i h1 h2 _
      simp [Z2l, h1, h2] at hc
    · rename_i h1 h2 _
      exact absurd (by simp [strDst, h1, h2]) hst
    · rename_i h1 h2 _
      simp [Z2l, h1, h2] at hc
    · rename_i h1 h2 _
      simp [Z2l, h1, h2] at hc
    · rw [Option.map_eq_some_iff] at hv
      obtain ⟨r, hr, e⟩ := hv
      obtain ⟨rfl, rfl⟩ := Prod.mk.inj e
      exact pureSame (conv_sim (P := P) H hr hx) rfl
  · rename_i t x
    have hx := hρ x (by simpa [Op.operands] using hok)
    split at hv
    · cases hv
    · rename_i ty hni hty
      obtain ⟨rfl, rfl⟩ := Prod.mk.inj (Option.some.inj hv)
      refine pureSame ⟨.iface t (ρ' x), ?_, .iface hx⟩ rfl
      simp only [Instr.makeInterface, Sem.run_bind, run_under H hty, Result.andThen_ok]
      cases hd : ty.desc <;> first
        | rfl
        | (exfalso
           cases ty
           simp only at hd
           subst hd
           exact hni _ _ _ _ _ _ rfl)
    · cases hv
  · rename_i fn first captured
    simp only [Op.operands, Array.all_append, Bool.and_eq_true] at hok
    obtain ⟨h1, h2⟩ := hok
    split at hv
    · cases hv
    · rename_i hny
      obtain ⟨rfl, rfl⟩ := Prod.mk.inj (Option.some.inj hv)
      refine pureSame ⟨.func fn (first.map ρ') (captured.map ρ'), rfl, .func (.same _ (fun l e => hny l e)) ?_ ?_⟩ rfl
      · simpa using vrs_map hρ (l := first.toList) (by simpa using h1)
      · simpa using vrs_map hρ (l := captured.toList) (by simpa using h2)
  · simp [Z2l] at hc
  · simp [Z2l] at hc
  · rename_i t x lo hi mx
    rw [Option.map_eq_some_iff] at hv
    obtain ⟨r, hr, e⟩ := hv
    obtain ⟨rfl, rfl⟩ := Prod.mk.inj e
    simp only [Op.operands, Array.all_append, Bool.and_eq_true] at hok
    obtain ⟨⟨⟨h0, h1⟩, h2⟩, h3⟩ := hok
    exact pureSame (slice_sim (P := P) H hr (hρ x (by simpa using h0)) (opr_map hρ h1) (opr_map hρ h2) (opr_map hρ h3)) rfl
  · rename_i t x i
    rw [Option.map_eq_some_iff] at hv
    obtain ⟨r, hr, e⟩ := hv
    obtain ⟨rfl, rfl⟩ := Prod.mk.inj e
    have hx := hρ x (by simpa [Op.operands] using hok)
    exact pureSame (fieldAddr_sim (P := P) H hr hx) rfl
  · rename_i t x i
    rw [Option.map_eq_some_iff] at hv
    obtain ⟨r, hr, e⟩ := hv
    obtain ⟨rfl, rfl⟩ := Prod.mk.inj e
    have hx := hρ x (by simpa [Op.operands] using hok)
    exact pureSame (field_sim (P := P) H hr hx) rfl
  · rename_i t x i
    rw [Option.map_eq_some_iff] at hv
    obtain ⟨r, hr, e⟩ := hv
    obtain ⟨rfl, rfl⟩ := Prod.mk.inj e
    simp [Op.operands] at hok
    exact pureSame (indexAddr_sim (P := P) H hr (hρ x hok.1) (hρ i hok.2)) rfl
  · rename_i t x i
    rw [Option.map_eq_some_iff] at hv
    obtain ⟨r, hr, e⟩ := hv
    obtain ⟨rfl, rfl⟩ := Prod.mk.inj e
    simp [Op.operands] at hok
    exact pureSame (index_sim (P := P) H hr (hρ x hok.1) (hρ i hok.2)) rfl
  · rename_i t m k ok
    rw [Option.map_eq_some_iff] at hv
    obtain ⟨r, hr, e⟩ := hv
    obtain ⟨rfl, rfl⟩ := Prod.mk.inj e
    simp [Op.operands] at hok
    exact pureSame (lookup_sim (P := P) H hs hr (hρ m hok.1) (hρ k hok.2)) rfl
  · simp [Z2l] at hc
  · simp [Z2l] at hc
  · simp [Z2l] at hc
  · simp [Z2l] at hc
  · simp [Z2l] at hc
  · simp [Z2l] at hc
  · rename_i x xt t ok
    rw [Option.map_eq_some_iff] at hv
    obtain ⟨r, hr, e⟩ := hv
    obtain ⟨rfl, rfl⟩ := Prod.mk.inj e
    have hx := hρ x (by simpa [Op.operands] using hok)
    exact pureSame (assert_sim (P := P) H hr hx) rfl
  · rename_i t ix
    have hx := hρ t (by simpa [Op.operands] using hok)
    split at hv
    · rename_i vs hvs
      rw [Option.map_eq_some_iff] at hv
      obtain ⟨r, hr, e⟩ := hv
      obtain ⟨rfl, rfl⟩ := Prod.mk.inj e
      rw [hvs] at hx
      generalize e : ρ' t = y at hx
      cases hx with
      | @tuple _ a' ha =>
        obtain ⟨v', h1, h2⟩ := ha.get (by simpa using hr)
        have h1 : a'[ix]? = some v' := by simpa using h1
        exact pureSame (m := Instr.extract (ρ' t) ix) ⟨v', by rw [e]; simp [Instr.extract, h1], h2⟩ rfl
    · cases hv
  · rename_i b args argTypes
    have hall : args.toList.all ok = true := by
      simp [Op.operands, Call.operands] at hok
      simpa using hok
    have ha : VRs β (args.toList.map ρ) (args.map ρ').toList := by simpa using vrs_map hρ hall
    obtain ⟨e1, v', h1, h2⟩ := builtin_pure (P := P) (ty := type) (cc := args.map fun | .const _ => true | _ => false) H hs hc hv ha
    exact ⟨e1, v', by simp only [resolve, Sem.run_bind, Sem.run_pure, Result.andThen_ok, invoke]; exact h1, h2⟩
  · cases hv
theorem convS_low {a b : TypeId} {x : Operand} (hc : Z2l C (.convert a b x) = 0) {s : St} {y : Value} : convS C s a b y = (convV C a b y).map fun v => (v, s) := by
 unfold convS;split
 ·rename_i h1 h2; simp [Z2l, h1, h2] at hc
 ·rename_i h1 h2; simp [Z2l, h1, h2] at hc
 ·rename_i h1 h2; simp [Z2l, h1, h2] at hc
 ·rename_i h1 h2; simp [Z2l, h1, h2] at hc
 ·rename_i h1 h2; simp [Z2l, h1, h2] at hc
 ·rename_i h1 h2; simp [Z2l, h1, h2] at hc
 ·rfl
theorem eval_blind {ρ : Operand → Value} {o : Op} (hc : Z2l C o = 0) {v : Value} (hv : Z2m C ρ s o = some (v, s')) (q : St) : Z2m C ρ q o = some (v, q) := by
  have map_ : ∀ {x : Option Value}, (x.map fun v => (v, s)) = some (v, s') → (x.map fun v => (v, q)) = some (v, q) := by
    intro x h;rw [Option.map_eq_some_iff] at h ⊢;obtain ⟨r, hr, e⟩ := h;obtain ⟨rfl, _⟩ := Prod.mk.inj e;exact ⟨r, hr, rfl⟩
  have some_ : ∀ {x : Value}, some (x, s) = some (v, s') → some (x, q) = some (v, q) := by
    intro x h;obtain ⟨rfl, _⟩ := Prod.mk.inj (Option.some.inj h); rfl
  cases o with
  | move x => exact some_ hv
  | assign x => exact some_ hv
  | pick c a b =>
    simp only [Z2m] at hv ⊢;split at hv
    · exact some_ hv
    · cases hv
  | build t ps => exact map_ hv
  | nilCheck x =>
    simp only [Z2m] at hv ⊢;split at hv <;> first | exact some_ hv | cases hv | (split at hv <;> first | exact some_ hv | cases hv)
  | unOp op t x => exact map_ hv
  | makeInterface t x =>
    simp only [Z2m] at hv ⊢;split at hv <;> first | exact some_ hv | cases hv
  | makeFunc fn a b =>
    simp only [Z2m] at hv ⊢;split at hv <;> first | exact some_ hv | cases hv
  | slice t x l h m => exact map_ hv
  | fieldAddr t x i => exact map_ hv
  | field t x i => exact map_ hv
  | indexAddr t x i => exact map_ hv
  | index t x i => exact map_ hv
  | typeAssert x a t k => exact map_ hv
  | extract t i =>
    simp only [Z2m] at hv ⊢;split at hv <;> first | exact map_ hv | cases hv
  | convert a b x =>
    simp only [Z2m] at hv ⊢;rw [convS_low hc] at hv ⊢;exact map_ hv
  | call c =>
    obtain ⟨callee, args, ts⟩ := c;cases callee with
    | builtin b =>
      simp only [Z2m, builtinV] at hv ⊢;split at hv
      · simp [Z2l] at hc
      · simp [Z2l] at hc
      · simp [Z2l] at hc
      · simp [Z2l] at hc
      · simp [Z2l] at hc
      · exact map_ hv
      · exact map_ hv
      · exact map_ hv
      · cases hv
    | _ => cases hv
  | binOp a b c d f =>
    exfalso;have hc : (if (eqOp a).isSome && isSl C b then 3 else 2) = 0 := hc;split at hc <;> cases hc
  | _ => simp [Z2l] at hc
theorem eval_fresh {ρ : Operand → Value} {o : Op} (hc : Z2l C o = 1) {v : Value} (hv : Z2m C ρ s o = some (v, s')) : ∃ ob, s' = s.new ob ∧ ∀ q : St, q.n = s.n → Z2m C ρ q o = some (v, q.new ob) := by
  cases o with
  | alloc t =>
    simp only [Z2m] at hv ⊢;split at hv
    · rename_i h
      obtain ⟨rfl, rfl⟩ := Prod.mk.inj (Option.some.inj hv);exact ⟨_, rfl, fun q hq => by simp only [hq]⟩
    · cases hv
  | box t x =>
    simp only [Z2m] at hv ⊢;obtain ⟨rfl, rfl⟩ := Prod.mk.inj (Option.some.inj hv);exact ⟨_, rfl, fun q hq => by simp only [hq]⟩
  | makeMap t r =>
    simp only [Z2m] at hv ⊢;split at hv
    · obtain ⟨rfl, rfl⟩ := Prod.mk.inj (Option.some.inj hv)
      exact ⟨_, rfl, fun q hq => by simp only [hq]⟩
    · split at hv
      · rename_i h
        obtain ⟨rfl, rfl⟩ := Prod.mk.inj (Option.some.inj hv);exact ⟨_, rfl, fun q hq => by simp only [hq]⟩
      · cases hv
    · cases hv
  | makeSlice t l c =>
    simp only [Z2m, makeSliceV] at hv ⊢;split at hv
    · split at hv
      · rename_i h1 _ _ h2
        split at hv
        · rename_i h3
          obtain ⟨rfl, rfl⟩ := Prod.mk.inj (Option.some.inj hv);exact ⟨_, rfl, fun q hq => by rw [hq, if_pos h3]⟩
        · cases hv
      · cases hv
    · cases hv
  | buildSlice t n ps =>
    simp only [Z2m, buildSliceV] at hv ⊢;split at hv
    · split at hv
      · split at hv
        · rename_i h1 _ _ h2 h3
          rw [Option.map_eq_some_iff] at hv;obtain ⟨cs, h4, e⟩ := hv;obtain ⟨rfl, rfl⟩ := Prod.mk.inj e;exact ⟨_, rfl, fun q hq => by rw [hq, if_pos h3, h4]; rfl⟩
        · cases hv
      · cases hv
    · cases hv
  | call c =>
    obtain ⟨callee, args, ts⟩ := c;cases callee with
    | builtin b => cases b <;> simp [Z2l] at hc
    | _ => simp [Z2l] at hc
  | convert a b x =>
    exfalso;simp only [Z2l] at hc;split at hc <;> simp at hc
  | binOp a b c d f =>
    exfalso;have hc : (if (eqOp a).isSome && isSl C b then 3 else 2) = 1 := hc;split at hc <;> cases hc
  | _ => simp [Z2l] at hc
theorem oneOp_low {rc : Rec} {e : Env} {o : Op} (hc : Z2l C o < 3) : oneOp C rc e s o = .ofOption (Z2m C e.eval s o) := by
  cases o with
  | call c =>
    obtain ⟨callee, args, ts⟩ := c;cases callee with
    | builtin b => rfl
    | _ => simp [Z2l] at hc
  | next a b => simp [Z2l] at hc
  | binOp op t x y c =>
    have hn : nilTok C op t (e.eval x) (e.eval y) = none := by
      have hc : (if (eqOp op).isSome && isSl C t then 3 else 2) < 3 := hc;unfold nilTok;cases hq : eqOp op with
      | none => rfl
      | some q =>
        cases hs : isSl C t with
        | false => rfl
        | true => rw [hq, hs] at hc; exact absurd hc (Nat.lt_irrefl _)
    show (match nilTok C op t (e.eval x) (e.eval y) with
      | some l => M.ofList (l.map fun b => (Value.bool b, s))
      | none => M.ofOption (Z2m C e.eval s (.binOp op t x y c))) = _
    rw [hn]
  | _ => rfl
end
end Go.Ai