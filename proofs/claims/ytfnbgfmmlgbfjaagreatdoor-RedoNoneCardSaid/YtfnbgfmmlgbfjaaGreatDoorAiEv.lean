/-
  What a run comes to, without counting levels: rules for code.
-/
import Derived.Test.YtfnbgfmmlgbfjaaGreatDoorAiMono
namespace Go.Ai

/-- finitely many leaves have a common bound -/
theorem all_sup {α : Type} {Q : Nat → α → Prop} (hm : ∀ n m a, n ≤ m → Q n a → Q m a) : ∀ {m : M α}, (m.All fun a => ∃ n, Q n a) → ∃ n, m.All (Q n)
  | .ret a, h => h
  | .fail, h => h.elim
  | .ask k f, h => by
    have step : ∀ j, j ≤ k → ∃ n, ∀ i, i < j → (f i).All (Q n) := by
      intro j
      induction j with
      | zero => exact fun _ => ⟨0, fun i hi => by omega⟩
      | succ j ih =>
        intro hj
        obtain ⟨n, hn⟩ := ih (by omega)
        obtain ⟨n', hn'⟩ := all_sup hm (h.2 j (by omega))
        refine ⟨max n n', fun i hi => ?_⟩
        by_cases hij : i = j
        · subst hij; exact hn'.mono fun a ha => hm _ _ a (Nat.le_max_right ..) ha
        · exact (hn i (by omega)).mono fun a ha => hm _ _ a (Nat.le_max_left ..) ha
    obtain ⟨n, hn⟩ := step k (Nat.le_refl _)
    exact ⟨n, h.1, hn⟩

section
variable {C : Cfg}

def Ev (C : Cfg) (t : Task) (s : St) (Q : Res → St → Prop) : Prop := ∃ n, (run C n t s).All fun x => Q x.1 x.2
/-- a call comes to values of which Q holds -/
def EvF (C : Cfg) (f : FuncId) (args : List Value) (s : St) (Q : Value → St → Prop) : Prop := ∃ n, (run C n (.call f args) s).All fun x => ∃ v, x.1 = .val v ∧ Q v x.2
def EvC (C : Cfg) (fid : FuncId) (c : Code) (e : Env) (s : St) (Q : Out → Env → St → Prop) : Prop := ∃ n, (execC C (run C n) fid c e s).All fun x => Q x.1 x.2.1 x.2.2
def EvL (C : Cfg) (ops : Array Oper) (l : List Oper) (e : Env) (s : St) (Q : Env → St → Prop) : Prop := ∃ n, (execOps C (run C n) ops l e s).All fun x => Q x.1 x.2
def EvO (C : Cfg) (e : Env) (s : St) (o : Op) (Q : Value → St → Prop) : Prop := ∃ n, (oneOp C (run C n) e s o).All fun x => Q x.1 x.2

variable {fid : FuncId} {e : Env} {s : St} {Q : Out → Env → St → Prop}

theorem EvF.up {f : FuncId} {args : List Value} {Q Q' : Value → St → Prop} (h : EvF C f args s Q) (hq : ∀ v s', Q v s' → Q' v s') : EvF C f args s Q' :=
  let ⟨n, h⟩ := h
  ⟨n, h.mono fun _ ⟨v, h1, h2⟩ => ⟨v, h1, hq _ _ h2⟩⟩
theorem EvC.up {c : Code} {Q' : Out → Env → St → Prop} (h : EvC C fid c e s Q) (hq : ∀ o e' s', Q o e' s' → Q' o e' s') : EvC C fid c e s Q' :=
  let ⟨n, h⟩ := h
  ⟨n, h.mono fun _ h => hq _ _ _ h⟩
theorem EvL.up {ops : Array Oper} {l : List Oper} {Q Q' : Env → St → Prop} (h : EvL C ops l e s Q) (hq : ∀ e' s', Q e' s' → Q' e' s') : EvL C ops l e s Q' :=
  let ⟨n, h⟩ := h
  ⟨n, h.mono fun _ h => hq _ _ h⟩

theorem execC_le {n m : Nat} (h : n ≤ m) (c : Code) (e : Env) (s : St) : MLe (execC C (run C n) fid c e s) (execC C (run C m) fid c e s) := execC_mono (run_mono h) fid c e s

theorem ev_skip (h : Q .normal e s) : EvC C fid .skip e s Q := ⟨0, h⟩
theorem ev_label {l : Nat} (h : Q .normal e s) : EvC C fid (.label l) e s Q := ⟨0, h⟩
theorem ev_exit {id : Nat} (h : Q (.exit id) e s) : EvC C fid (.exit id) e s Q := ⟨0, h⟩
theorem ev_ret (h : Q .ret e s) : EvC C fid .ret e s Q := ⟨0, h⟩
theorem ev_scope {c : Code} (h : EvC C fid c e s Q) : EvC C fid (.scope c) e s Q := h
theorem ev_true {c : Operand} {a b : Code} (hc : e.eval c = .bool true) (h : EvC C fid a e s Q) : EvC C fid (.cond c a b) e s Q := by
  obtain ⟨n, h⟩ := h
  refine ⟨n, ?_⟩
  unfold execC
  rw [hc]
  exact h
theorem ev_false {c : Operand} {a b : Code} (hc : e.eval c = .bool false) (h : EvC C fid b e s Q) : EvC C fid (.cond c a b) e s Q := by
  obtain ⟨n, h⟩ := h
  refine ⟨n, ?_⟩
  unfold execC
  rw [hc]
  exact h
theorem ev_cond {c : Operand} {a b : Code} {q : Bool} (hc : e.eval c = .bool q) (h1 : q = true → EvC C fid a e s Q) (h2 : q = false → EvC C fid b e s Q) : EvC C fid (.cond c a b) e s Q := by
  cases q with
  | true => exact ev_true hc (h1 rfl)
  | false => exact ev_false hc (h2 rfl)

theorem ev_seq {a b : Code} (h : EvC C fid a e s fun o e1 s1 => match o with
      | .normal => EvC C fid b e1 s1 Q
      | o => Q o e1 s1) : EvC C fid (.seq a b) e s Q := by
  obtain ⟨n, h⟩ := h
  have h2 : (execC C (run C n) fid a e s).All fun x => ∃ m, (match x.1 with
      | .normal => execC C (run C m) fid b x.2.1 x.2.2
      | o => M.ret (o, x.2.1, x.2.2)).All fun (y : Out × Env × St) => Q y.1 y.2.1 y.2.2 := h.mono fun x hx => by
    obtain ⟨o, e1, s1⟩ := x
    cases o with
    | normal => exact hx
    | exit id => exact ⟨0, hx⟩
    | ret => exact ⟨0, hx⟩
  obtain ⟨m, hm⟩ := all_sup (fun i j x hij hx => by
    obtain ⟨o, e1, s1⟩ := x
    cases o with
    | normal => exact (execC_le hij b e1 s1).all hx
    | exit id => exact hx
    | ret => exact hx) h2
  refine ⟨max n m, ?_⟩
  unfold execC
  rw [M.all_bind]
  have h3 := (execC_le (fid := fid) (C := C) (Nat.le_max_left n m) a e s).all hm
  refine h3.mono fun x hx => ?_
  obtain ⟨o, e1, s1⟩ := x
  cases o with
  | normal => exact (execC_le (Nat.le_max_right n m) b e1 s1).all hx
  | exit id => exact hx
  | ret => exact hx

theorem ev_block {id : Nat} {c : Code} (h : EvC C fid c e s fun o e1 s1 => match o with
      | .exit i => Q (if i = id then .normal else .exit i) e1 s1
      | o => Q o e1 s1) : EvC C fid (.block id c) e s Q := by
  obtain ⟨n, h⟩ := h
  refine ⟨n, ?_⟩
  unfold execC
  rw [M.all_bind]
  refine h.mono fun x hx => ?_
  obtain ⟨o, e1, s1⟩ := x
  cases o <;> exact hx

theorem ev_loop {c : Code} (h : EvC C fid c e s fun o e1 s1 => match o with
      | .normal => EvC C fid (.loop c) e1 s1 Q
      | o => Q o e1 s1) : EvC C fid (.loop c) e s Q := by
  obtain ⟨n, h⟩ := h
  have h2 : (execC C (run C n) fid c e s).All fun x => ∃ m, (match x.1 with
      | .normal => (run C m (.code fid (.loop c) x.2.1) x.2.2).bind outOf
      | o => M.ret (o, x.2.1, x.2.2)).All fun (y : Out × Env × St) => Q y.1 y.2.1 y.2.2 := h.mono fun x hx => by
    obtain ⟨o, e1, s1⟩ := x
    cases o with
    | normal =>
      obtain ⟨m, hm⟩ := hx
      refine ⟨m + 1, ?_⟩
      show (M.bind ((execC C (run C m) fid (.loop c) e1 s1).bind fun (o, e', s') => .ret (.out o e', s')) outOf).All _
      rw [M.all_bind, M.all_bind]
      exact hm.mono fun y hy => hy
    | exit id => exact ⟨0, hx⟩
    | ret => exact ⟨0, hx⟩
  obtain ⟨m, hm⟩ := all_sup (fun i j x hij hx => by
    obtain ⟨o, e1, s1⟩ := x
    cases o with
    | normal => exact ((run_mono hij _ _).bind fun _ => .refl _).all hx
    | exit id => exact hx
    | ret => exact hx) h2
  refine ⟨max n m, ?_⟩
  unfold execC
  rw [M.all_bind]
  have h3 := (execC_le (fid := fid) (C := C) (Nat.le_max_left n m) c e s).all hm
  refine h3.mono fun x hx => ?_
  obtain ⟨o, e1, s1⟩ := x
  cases o with
  | normal => exact ((run_mono (Nat.le_max_right n m) _ _).bind fun _ => .refl _).all hx
  | exit id => exact hx
  | ret => exact hx

theorem ev_region {id : Nat} {ops : Array Oper} (h : EvL C ops ops.toList e s fun e1 s1 => Q .normal e1 s1) : EvC C fid (.region id ops false) e s Q := by
  obtain ⟨n, h⟩ := h
  refine ⟨n, ?_⟩
  unfold execC
  rw [M.all_bind]
  exact h.mono fun x hx => hx

theorem ev_call {f : FuncId} {fn : Func} {c : Code} {args : List Value} {R : Value → St → Prop} (hf : C.fn f = some fn) (hb : fn.body = some c) (h : EvC C f c (Env.start fn.ntmps args) s fun o e1 s1 => match o with
      | .exit _ => False
      | _ => ∃ vs, resultsV C s1 e1 fn.results.toList = some vs ∧ R (oneOrTuple vs) s1) : EvF C f args s R := by
  obtain ⟨n, h⟩ := h
  refine ⟨n + 1, ?_⟩
  have heq : run C (n + 1) (.call f args) s = (execC C (run C n) f c (Env.start fn.ntmps args) s).bind (callEnd C fn) := by simp only [run, istep, hf, hb]
  rw [heq, M.all_bind]
  refine h.mono fun x hx => ?_
  obtain ⟨o, e1, s1⟩ := x
  unfold callEnd
  cases o with
  | exit id => exact hx
  | normal =>
    obtain ⟨vs, h1, h2⟩ := hx
    dsimp only
    rw [h1]
    exact ⟨_, rfl, h2⟩
  | ret =>
    obtain ⟨vs, h1, h2⟩ := hx
    dsimp only
    rw [h1]
    exact ⟨_, rfl, h2⟩

theorem execOps_le {n m : Nat} (h : n ≤ m) {ops : Array Oper} (l : List Oper) (e : Env) (s : St) : MLe (execOps C (run C n) ops l e s) (execOps C (run C m) ops l e s) := execOps_mono (run_mono h) l e s

theorem evl_nil {ops : Array Oper} {R : Env → St → Prop} (h : R e s) : EvL C ops [] e s R := ⟨0, h⟩
theorem evl_skip {ops : Array Oper} {o : Oper} {l : List Oper} {R : Env → St → Prop} (hw : Region.wanted o (yieldedV ops e) = false) (h : EvL C ops l (e.dst o.dst undef) s R) : EvL C ops (o :: l) e s R := by
  obtain ⟨n, h⟩ := h
  refine ⟨n, ?_⟩
  unfold execOps
  rw [if_neg (by simp [hw])]
  exact h
theorem evl_ofOp {ops : Array Oper} {o : Oper} {l : List Oper} {R : Env → St → Prop} (hw : Region.wanted o (yieldedV ops e) = true) (h : EvO C e s o.op fun v s1 => EvL C ops l (e.dst o.dst v) s1 R) : EvL C ops (o :: l) e s R := by
  obtain ⟨n, h⟩ := h
  obtain ⟨m, hm⟩ := all_sup (Q := fun m (x : Value × St) => (execOps C (run C m) ops l (e.dst o.dst x.1) x.2).All fun (y : Env × St) => R y.1 y.2) (fun i j x hij hx => (execOps_le hij l _ _).all hx) h
  refine ⟨max n m, ?_⟩
  unfold execOps
  rw [if_pos hw, M.all_bind]
  have h3 := (oneOp_mono (C := C) (run_mono (C := C) (Nat.le_max_left n m)) e s o.op).all hm
  exact h3.mono fun x hx => (execOps_le (Nat.le_max_right n m) l _ _).all hx
/-- an operation that calls nothing -/
theorem evo_eval {o : Op} {R : Value → St → Prop} {v : Value} {s' : St} (hv : evalOp C e.eval s o = some (v, s')) (ho : oneOp C (fun _ _ => .fail) e s o = .ofOption (evalOp C e.eval s o)) (h : R v s') : EvO C e s o R := by
  refine ⟨0, ?_⟩
  have : oneOp C (run C 0) e s o = .ofOption (evalOp C e.eval s o) := ho
  rw [this, hv]
  exact h
theorem evo_call {c : Call} {R : Value → St → Prop} {f : FuncId} {args : List Value} (ho : ∀ rc, oneOp C rc e s (.call c) = (match target C s e.eval c with | some t => (rc t s).bind valOnly | none => .fail)) (ht : target C s e.eval c = some (.call f args)) (h : EvF C f args s R) : EvO C e s (.call c) R := by
  obtain ⟨n, h⟩ := h
  refine ⟨n, ?_⟩
  rw [ho, ht]
  dsimp only
  rw [M.all_bind]
  refine h.mono fun x ⟨v, h1, h2⟩ => ?_
  obtain ⟨r, s1⟩ := x
  cases h1
  exact h2

end
end Go.Ai
