/-
  What a call comes to: which function is entered, or which round begun, with which arguments.
-/
import Derived.Test.YtfnbgfmmlgbfjaaGreatDoorAiGrow
namespace Go.Ai

section
variable {P : Program} {C : Cfg} {K : Code → Prop} (H : CfgOk P C K) {β : Bij} {own : Nat → Option Nat} {s : St} {w : World}

/-- what the model's call comes to, where the interpreter's comes to 't' -/
def CallAs (P : Program) (β : Bij) (w : World) (m : Sem Next) (t : Task) : Prop :=
  match t with
  | .call f args => ∃ args' : Array Value, VRs β args args'.toList ∧ m.run P w = (callFunc f args').run P w
  | .round l args => ∃ (l' : Nat) (args' : Array Value), β.obj l = some l' ∧ VRs β args args'.toList ∧ m.run P w = (Instr.yield l' args').run P w
  | .code _ _ _ => False

theorem value_sim {f f' : Value} {args : List Value} {args' : Array Value} {t : Task} (hf : VR β f f') (ha : VRs β args args'.toList) (ht : callValue f args = some t) :
    CallAs P β w (do let d ← Deferred.ofValue f' args'; invoke d.target d.args) t := by
  unfold callValue at ht
  split at ht
  · rename_i g first captured
    obtain rfl := Option.some.inj ht
    cases hf with
    | func h1 h2 h3 =>
      rename_i first' captured'
      cases h1 with
      | same =>
        refine ⟨first' ++ args' ++ captured', ?_, ?_⟩
        · simpa using (h2.append (ha.append h3))
        · simp [Deferred.ofValue, invoke]
  · rename_i l first captured
    obtain rfl := Option.some.inj ht
    cases hf with
    | func h1 h2 h3 =>
      rename_i first' captured'
      cases h1 with
      | same _ h => exact absurd rfl (h l)
      | yield h =>
        rename_i l'
        refine ⟨l', first' ++ args', h, ?_, ?_⟩
        · simpa using h2.append ha
        · simp [Deferred.ofValue, invoke]
  · cases ht

include H in
theorem method_sim {t : TypeId} {v' : Value} {name : String} {f : FuncId} (hm : methodV C t name = some f) (n : Nat) : (method (n + 1) t v' name).run P w = .ok (f, v') w := by
  unfold methodV at hm
  split at hm
  · rename_i ty hty
    obtain ⟨i, hi, _, _, _, _, hms, _⟩ := run_info (w := w) H hty
    split at hm
    · rename_i nm sg path g ptr hfind
      split at hm
      · rename_i hp
        have hpl : path.toList = [] := by
          have : path = #[] := by simpa using hp
          simp [this]
        have hu := run_under (w := w) H hty
        simp only [method, Sem.run_bind, hi, Result.andThen_ok, hms, hfind, hpl, follow, Sem.run_pure]
        split at hm
        · rename_i hd
          obtain rfl := Option.some.inj hm
          simp [receiverAt, hu, hd, Place.get]
        · cases hm
        · cases hm
        · rename_i hnp _
          obtain rfl := Option.some.inj hm
          simp only [receiverAt, Sem.run_bind, hu, Result.andThen_ok]
          cases hd : ty.desc <;> first
            | rfl
            | exact absurd hd (hnp _)
      · cases hm
    · cases hm
  · cases hm

include H in
theorem callMethod_sim {t : TypeId} {v' : Value} {name : String} {f : FuncId} (hm : methodV C t name = some f) (args' : Array Value) :
    (callMethod (.iface t v') name args').run P w = (callFunc f (#[v'] ++ args')).run P w := by
  simp only [callMethod, Sem.run_bind, run_program, Result.andThen_ok]
  rw [show P.types.size + Made.depth = (P.types.size + Made.depth - 1) + 1 from by simp [Made.depth]]
  rw [method_sim H hm]
  rfl

theorem extract_tail (x : Value) (l : List Value) {a : Array Value} (h : a.toList = x :: l) : a[0]? = some x ∧ (a.extract 1 a.size).toList = l := by
  cases a with
  | mk a => simp at h; subst h; simp

include H in
theorem target_sim {ρ ρ' : Operand → Value} {ok : Operand → Bool} (hρ : ∀ x, ok x = true → VR β (ρ x) (ρ' x)) {c : Call} (hok : c.operands.all ok = true) {ty : TypeId} {t : Task} (ht : target C s ρ c = some t) :
    CallAs P β w (do let d ← resolve ρ' c ty; invoke d.target d.args) t := by
  obtain ⟨callee, args, ats⟩ := c
  unfold target at ht
  simp only at ht
  have hargs : args.all ok = true := by
    simp only [Call.operands] at hok
    rw [Array.all_append, Bool.and_eq_true] at hok
    exact hok.2
  have ha : VRs β (args.toList.map ρ) (args.map ρ').toList := by
    simpa using vrs_map hρ (l := args.toList) (by simpa using hargs)
  split at ht
  · cases ht
  · rename_i f
    have hfok : ok f = true := by
      simp only [Call.operands] at hok
      rw [Array.all_append, Bool.and_eq_true] at hok
      simpa using hok.1
    have hf := hρ f hfok
    split at ht
    · rename_i g first captured hg
      exact value_sim (args' := args.map ρ') hf ha (by unfold callValue; rw [hg]; exact ht)
    · rename_i l first captured hg
      exact value_sim (args' := args.map ρ') hf ha (by unfold callValue; rw [hg]; exact ht)
    · rename_i tt name first captured hg
      rw [hg] at hf
      generalize hv : ρ' f = fv at hf
      cases hf with
      | func h1 h2 h3 =>
      rename_i first' captured'
      cases h1 with
      | same =>
      have hall := h2.append ha
      split at ht
      · rename_i r rest hr
        rw [hr] at hall
        obtain ⟨r', rest', e, hr', hrest⟩ := hall.cons_inv
        obtain ⟨e1, e2⟩ := extract_tail (a := first' ++ args.map ρ') r' rest' (by simpa using e)
        generalize hA : first' ++ args.map ρ' = A at e1 e2
        split at ht
        · rename_i u v hty
          rw [Option.map_eq_some_iff] at ht
          obtain ⟨g, hm, rfl⟩ := ht
          cases hr' with
          | @iface _ _ v' hv' =>
          refine ⟨#[v'] ++ A.extract 1 A.size, ?_, ?_⟩
          · rw [Array.toList_append, e2]; exact VRs.cons hv' hrest
          · have hu := run_under (w := w) H hty
            simp only [resolve, hv, Deferred.ofValue, Sem.run_bind, Sem.run_pure, Result.andThen_ok, invoke, hA, e1, hu]
            exact callMethod_sim H hm _
        · cases ht
        · rename_i ty' hni hty _
          rw [Option.map_eq_some_iff] at ht
          obtain ⟨g, hm, rfl⟩ := ht
          refine ⟨#[r'] ++ A.extract 1 A.size, ?_, ?_⟩
          · rw [Array.toList_append, e2]; exact VRs.cons hr' hrest
          · have hu := run_under (w := w) H hty
            simp only [resolve, hv, Deferred.ofValue, Sem.run_bind, Sem.run_pure, Result.andThen_ok, invoke, hA, e1, hu]
            have hd : ∀ ms, ty'.desc ≠ .interface ms := by
              intro ms hms
              cases ty'
              simp only at hms
              subst hms
              exact hni _ _ _ _ _ _ rfl
            split
            · rename_i ms hms; exact absurd hms (hd ms)
            · exact callMethod_sim H hm _
        · cases ht
      · cases ht
    · rename_i name first captured hg
      rw [hg] at hf
      generalize hv : ρ' f = fv at hf
      cases hf with
      | func h1 h2 h3 =>
      rename_i first' captured'
      cases h1 with
      | same =>
      have hall := h2.append ha
      split at ht
      · rename_i u v rest hr
        rw [hr] at hall
        rw [Option.map_eq_some_iff] at ht
        obtain ⟨g, hm, rfl⟩ := ht
        obtain ⟨r', rest', e, hr', hrest⟩ := hall.cons_inv
        obtain ⟨e1, e2⟩ := extract_tail (a := first' ++ args.map ρ') r' rest' (by simpa using e)
        generalize hA : first' ++ args.map ρ' = A at e1 e2
        cases hr' with
        | @iface _ _ v' hv' =>
        refine ⟨#[v'] ++ A.extract 1 A.size, ?_, ?_⟩
        · rw [Array.toList_append, e2]; exact VRs.cons hv' hrest
        · simp only [resolve, hv, Deferred.ofValue, Sem.run_bind, Sem.run_pure, Result.andThen_ok, invoke, hA, e1]
          exact callMethod_sim H hm _
      · cases ht
    · cases ht
  · rename_i recv name
    have hrok : ok recv = true := by
      simp only [Call.operands] at hok
      rw [Array.all_append, Bool.and_eq_true] at hok
      simpa using hok.1
    have hr := hρ recv hrok
    split at ht
    · rename_i u v hv
      rw [hv] at hr
      rw [Option.map_eq_some_iff] at ht
      obtain ⟨g, hm, rfl⟩ := ht
      generalize hv' : ρ' recv = rv at hr
      cases hr with
      | @iface _ _ v' hvv =>
      refine ⟨#[v'] ++ args.map ρ', ?_, ?_⟩
      · simpa using VRs.cons hvv (by simpa using ha)
      · have e : (#[Value.iface u v'] ++ args.map ρ').extract 1 (#[Value.iface u v'] ++ args.map ρ').size = args.map ρ' := by
          apply Array.toList_inj.1
          simp [List.take_of_length_le]
        rw [show (do let d ← resolve ρ' { callee := .invoke recv name, args := args, argTypes := ats } ty; invoke d.target d.args) = invoke (.fn (.method name) #[]) (#[ρ' recv] ++ args.map ρ') from rfl, hv']
        simp only [invoke]
        rw [e]
        have e1 := (extract_tail (a := #[Value.iface u v'] ++ args.map ρ') (.iface u v') (args.map ρ').toList (by rw [Array.toList_append]; rfl)).1
        rw [e1]
        exact callMethod_sim H hm _
    · cases ht

include H in
/-- a function with a body is entered -/
theorem callFunc_sim {f : FuncId} {fn : Func} {c : Code} (hf : C.fn f = some fn) (hb : fn.body = some c) (args : Array Value) : (callFunc f args).run P w = .ok (.enter f args) w := by
  obtain ⟨h1, h2, _⟩ := H.fn f fn hf
  simp [callFunc, h1, h2, hb]

theorem exec_call {ρ' : Operand → Value} {o : Oper} {c : Call} (ho : o.op = .call c) : execOp ρ' o = (do let d ← resolve ρ' c o.type; invoke d.target d.args) := by
  simp only [execOp, ho]

/-- where a loop stands -/
theorem loop_at (hs : SR K β own s.get w) {l l' : Nat} {lp : ALoop} (hl : β.obj l = some l') (hg : s.get l = some (.loop lp)) : ∃ lp', w.heap[l']? = some (.loop lp') ∧ LoopR β K lp lp' := (hs.obj l l' hl).2.2 _ hg

theorem run_getLoop {l : Nat} {lp : Loop} (h : w.heap[l]? = some (.loop lp)) : (Instr.getLoop l).run P w = .ok lp w := by
  simp [Instr.getLoop, run_getObj h (fun c t fr => by simp)]

theorem yield_sim {l' : Nat} {lp' : Loop} (h : w.heap[l']? = some (.loop lp')) {args' : Array Value} (hn : args'.size = lp'.params.size) :
    (Instr.yield l' args').run P w = .ok (.round l' lp'.fn ((lp'.params.zip args').foldl (fun tmps (t, a) => tmps.setIfInBounds t a) lp'.tmps) lp'.assign lp'.body) w := by
  simp only [Instr.yield, Sem.run_bind, run_getLoop h, Result.andThen_ok]
  rw [if_neg (by simp [hn])]
  simp

theorem er_putA : ∀ (ts : List Tmp) (args args' : List Value) (e : Env) (t : Array Value), VRs β args args' → ER β e t →
    ER β (Env.putA ts args e) ((ts.zip args').foldl (fun tmps (x : Tmp × Value) => tmps.setIfInBounds x.1 x.2) t)
  | [], _, _, e, t, _, h => by simpa [Env.putA] using h
  | _ :: _, _, _, e, t, .nil, h => by simpa [Env.putA] using h
  | x :: ts, _, _, e, t, .cons hv hr, h => by
    simp only [Env.putA, List.zip_cons_cons, List.foldl_cons]
    exact er_putA ts _ _ _ _ hr (h.put x hv)

end
end Go.Ai
