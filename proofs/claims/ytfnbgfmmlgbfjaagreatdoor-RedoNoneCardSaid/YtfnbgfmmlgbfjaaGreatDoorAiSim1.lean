/-
  One operation, calls with it; the operations of a region in the text's order.
-/
import Derived.Test.YtfnbgfmmlgbfjaaGreatDoorAiCall
namespace Go.Ai

/-- the first 'G' package-level variables: rows of one cell, which are read alone -/
def Glob (β : Bij) (G : Nat) : Prop := ∀ g, g < G → ∃ L, β.arr g 1 = some L ∧ L.block = g ∧ L.base = 0 ∧ L.lo = 0
theorem Glob.mono {β β' : Bij} {G : Nat} (h : Glob β G) (hl : β.le β') : Glob β' G := fun g hg => by
  obtain ⟨L, h1, h2⟩ := h g hg
  exact ⟨L, hl.2 _ _ _ h1, h2⟩
theorem Glob.ptr {β : Bij} {G g : Nat} (h : Glob β G) (hg : g < G) : VR β (.pointer (some ⟨g, 0, some 1⟩)) (.pointer (some ⟨g, 0, none⟩)) := by
  obtain ⟨L, h1, h2, h3, h4⟩ := h g hg
  have := VR.ptrArr (β := β) (o := 0) h1 (by omega)
  rw [h2, h3, h4] at this
  exact this

def notDefer : Op → Bool
  | .defer _ => false
  | _ => true
theorem notDefer_ne {o : Op} (h : notDefer o = true) (c : Call) : o ≠ .defer c := by rintro rfl; cases h

theorem all_ofOption {α : Type} {Q : α → Prop} {o : Option α} (h : (M.ofOption o).All Q) : ∃ a, o = some a ∧ Q a := by
  cases o with
  | none => exact h.elim
  | some a => exact ⟨a, rfl, h⟩

section
variable {P : Program} {C : Cfg} {K : Code → Prop} {β : Bij} {own : Nat → Option Nat} {s : St} {w : World} {G : Nat}

/-- a call from start to end, whoever called -/
def CallsTo (P : Program) (f : FuncId) (args : Array Value) (w : World) (v : Value) (w' : World) : Prop :=
  ∀ cs, ∃ fr, Steps P (lone (Frame.enter P f args .normal) cs w) (lone fr cs w') ∧ fr.fn = f ∧ fr.leaving P w' (.returned v)

theorem CallsTo.steps {f : FuncId} {args : Array Value} {w w' : World} {v : Value} (h : CallsTo P f args w v w') (c : Frame) (cs : List Frame) :
    Steps P (lone (Frame.enter P f args .normal) (c :: cs) w) (lone (c.finish v) cs w') := by
  obtain ⟨fr, h1, _, h2⟩ := h (c :: cs)
  exact h1.trans (.one (step_leave_returned h2))

def roundTmps (lp : Loop) (args : Array Value) : Array Value := (lp.params.zip args).foldl (fun tmps (t, a) => tmps.setIfInBounds t a) lp.tmps

def CallSim (P : Program) (K : Code → Prop) (G : Nat) (rc : Rec) : Prop :=
  ∀ (β : Bij) (own : Nat → Option Nat) (s : St) (w : World) (f : FuncId) (args : List Value) (args' : Array Value), SR K β own s.get w → s.WF → Glob β G → VRs β args args'.toList →
    (rc (.call f args) s).All (fun x => Free β s x.2) →
    ∃ v s' β' own' w' v', (rc (.call f args) s).Has (.val v, s') ∧ Ext β own s w β' own' s' w' ∧ SR K β' own' s'.get w' ∧ VR β' v v' ∧
      (callFunc f args').run P w = .ok (.enter f args') w ∧ CallsTo P f args' w v' w'

def RoundSim (P : Program) (K : Code → Prop) (G : Nat) (rc : Rec) : Prop :=
  ∀ (β : Bij) (own : Nat → Option Nat) (s : St) (w : World) (l l' : Nat) (args : List Value) (args' : Array Value), SR K β own s.get w → s.WF → Glob β G → VRs β args args'.toList → β.obj l = some l' →
    (rc (.round l args) s).All (fun x => Free β s x.2) →
    ∃ v s' β' own' w' v' lp', (rc (.round l args) s).Has (.val v, s') ∧ Ext β own s w β' own' s' w' ∧ SR K β' own' s'.get w' ∧ VR β' v v' ∧
      w.heap[l']? = some (.loop lp') ∧ args'.size = lp'.params.size ∧
      ∀ c cs, Steps P (lone (Frame.round l' lp'.fn (roundTmps lp' args') lp'.assign lp'.body .normal) (c :: cs) w) (lone (c.finish v') cs w')

/-- an operation's way through the machine -/
def OpWay (P : Program) (o : Oper) (t : Array Value) (w : World) (v : Value) (w' : World) : Prop :=
  ∀ (b : Frame) (ds : List Deferred) (k : List Item) (cs : List Frame) (ops : Array Oper) (i : Nat) (rest : List Nat), ops[i]? = some o → Region.wanted o (yielded ops t) = true →
    Steps P (lone (fgo b t ds (.inRegion ops (i :: rest) :: k)) cs w) (lone (fgo b (dstAt t o.dst v) ds (.inRegion ops rest :: k)) cs w')

theorem OpWay.of_run {o : Oper} {t : Array Value} {w w' : World} {v : Value} (hd : notDefer o.op = true)
    (h : (execOp (feval t) o).run P w = .ok (.value v) w' ∨ ((execOp (feval t) o).run P w = .ok .skip w' ∧ v = undef)) : OpWay P o t w v w' :=
  fun _ _ _ _ _ _ _ ho hw => .one (st_op ho hw (notDefer_ne hd) h)

def OneSim (P : Program) (K : Code → Prop) (β : Bij) (own : Nat → Option Nat) (s : St) (w : World) (m : M (Value × St)) (o : Oper) (t : Array Value) : Prop :=
  ∃ v s' β' own' w' v', m.Has (v, s') ∧ Ext β own s w β' own' s' w' ∧ SR K β' own' s'.get w' ∧ VR β' v v' ∧ OpWay P o t w v' w'

theorem OneSim.ofOp {o : Oper} {t : Array Value} {v : Value} {s' : St} {m : M (Value × St)} (hm : m.Has (v, s')) (hd : notDefer o.op = true) (h : OpSim P K β own s w (execOp (feval t) o) v s') : OneSim P K β own s w m o t := by
  obtain ⟨β', own', w', v', h1, h2, h3, h4⟩ := h
  exact ⟨v, s', β', own', w', v', hm, h2, h3, h4, .of_run hd h1⟩

theorem oneOp_sim (H : CfgOk P C K) {rc : Rec} (hc : CallSim P K G rc) (hr : RoundSim P K G rc) (hs : SR K β own s.get w) (hw : s.WF) (hG : Glob β G) {e : Env} {t : Array Value} {ok : Operand → Bool}
    (hρ : ∀ x, ok x = true → VR β (e.eval x) (feval t x)) {o : Oper} (hok : o.op.operands.all ok = true) (hd : notDefer o.op = true) (hf : (oneOp C rc e s o.op).All fun x => Free β s x.2) :
    OneSim P K β own s w (oneOp C rc e s o.op) o t := by
  have easy : ∀ {v : Value} {s' : St}, evalOp C e.eval s o.op = some (v, s') → oneOp C rc e s o.op = .ofOption (evalOp C e.eval s o.op) → Free β s s' → OneSim P K β own s w (oneOp C rc e s o.op) o t := by
    intro v s' hv he hfr
    refine .ofOp (v := v) (s' := s') ?_ hd (evalOp_sim H hs hw hfr hρ hok hv).1
    rw [he, hv]
    exact .ret _
  cases hop : o.op with
  | call c =>
    rw [hop] at hf hok easy
    by_cases hb : ∃ b, c.callee = .builtin b
    · obtain ⟨b, hb⟩ := hb
      obtain ⟨callee, args, ats⟩ := c
      simp only at hb
      subst hb
      obtain ⟨⟨v, s'⟩, h1, h2⟩ := all_ofOption (show (M.ofOption (builtinV C s b ats (args.toList.map e.eval))).All _ from hf)
      exact easy (v := v) (s' := s') h1 rfl h2
    · have he : oneOp C rc e s (.call c) = match target C s e.eval c with
          | some t => (rc t s).bind valOnly
          | none => .fail := by
        unfold oneOp
        split
        · rename_i heq
          cases heq
          exact absurd ⟨_, rfl⟩ hb
        · rename_i heq
          cases heq
          rfl
        · rename_i heq; cases heq
        · rename_i h1 _
          exact absurd rfl (h1 _)
      rw [he] at hf ⊢
      cases ht : target C s e.eval c with
      | none => rw [ht] at hf; exact hf.elim
      | some tk =>
        rw [ht] at hf
        simp only at hf ⊢
        rw [M.all_bind] at hf
        have hf' : (rc tk s).All fun x => Free β s x.2 := hf.mono fun x hx => by
          obtain ⟨r, s1⟩ := x
          cases r with
          | out _ _ => exact hx.elim
          | val v => exact hx
        have hta := target_sim (P := P) (w := w) (ty := o.type) H hρ (c := c) hok ht
        have hex : execOp (feval t) o = (do let d ← resolve (feval t) c o.type; invoke d.target d.args) := exec_call hop
        cases tk with
        | code _ _ _ => exact hta.elim
        | call f args =>
          obtain ⟨args', ha, hrun⟩ := hta
          obtain ⟨v, s', β', own', w', v', h1, h2, h3, h4, h5, h6⟩ := hc _ _ _ _ _ _ args' hs hw hG ha hf'
          refine ⟨v, s', β', own', w', v', h1.bind (.ret _), h2, h3, h4, fun b ds k cs ops i rest ho hwt => ?_⟩
          rw [← hex] at hrun
          refine (Steps.one (st_call ho hwt (notDefer_ne hd) (hrun.trans h5))).trans ?_
          rw [← finish_op ho]
          exact h6.steps _ _
        | round l args =>
          obtain ⟨l', args', hl, ha, hrun⟩ := hta
          obtain ⟨v, s', β', own', w', v', lp', h1, h2, h3, h4, h5, h6, h7⟩ := hr _ _ _ _ _ _ _ args' hs hw hG ha hl hf'
          refine ⟨v, s', β', own', w', v', h1.bind (.ret _), h2, h3, h4, fun b ds k cs ops i rest ho hwt => ?_⟩
          rw [← hex] at hrun
          refine (Steps.one (st_round ho hwt (notDefer_ne hd) (hrun.trans (yield_sim h5 h6)))).trans ?_
          rw [← finish_op ho]
          exact h7 _ _
  | next it isS =>
    rw [hop] at hf hok
    have hf' : (match nextV s (e.eval it) isS with | some l => M.ofList l | none => M.fail).All (fun x : Value × St => Free β s x.2) := hf
    have he : oneOp C rc e s (.next it isS) = match nextV s (e.eval it) isS with | some l => M.ofList l | none => M.fail := rfl
    rw [he]
    cases hn : nextV s (e.eval it) isS with
    | none => rw [hn] at hf'; exact hf'.elim
    | some l =>
      have hx := hρ it (by simpa [Op.operands] using hok)
      obtain ⟨v, s', h1, h2, h3, β', own', w', v', q1, q2, q3, q4⟩ := next_sim (P := P) hs hw hn hx o.type
      refine .ofOp (v := v) (s' := s') h1 hd ⟨β', own', w', v', .inl ?_, q2, q3, q4⟩
      have hex : execOp (feval t) o = (do pure (.value (← Instr.next (feval t it) isS o.type))) := by simp only [execOp, hop]
      rw [hex]
      simp [q1]
  | _ =>
    have he : oneOp C rc e s o.op = .ofOption (evalOp C e.eval s o.op) := by rw [hop]; rfl
    rw [← hop]
    rw [he] at hf
    obtain ⟨⟨v, s'⟩, h1, h2⟩ := all_ofOption hf
    exact easy (v := v) (s' := s') h1 he h2

end
end Go.Ai
