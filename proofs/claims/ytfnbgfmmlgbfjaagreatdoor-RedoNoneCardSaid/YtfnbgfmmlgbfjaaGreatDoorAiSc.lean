/-
  What a call, or a part of the code, comes to for the machine: sets of answers, and how they are put together.
-/
import Derived.Test.YtfnbgfmmlgbfjaaGreatDoorAiTop
namespace Go.Ai

/-- nothing stands for a number that is still to be given -/
def Shut (β : Bij) (s : St) : Prop := ∀ i, β.dom i → i < s.n
theorem Shut.free {β : Bij} {s s' : St} (h : Shut β s) : Free β s s' := fun i hi => .inl (h i hi)
theorem Shut.ext {β β' : Bij} {own own' : Nat → Option Nat} {s s' : St} {w w' : World} (h : Shut β s) (e : Ext β own s w β' own' s' w') : Shut β' s' := fun i hi => by
  rcases e.new i hi with h1 | h1
  · exact Nat.lt_of_lt_of_le (h i h1) e.nle
  · exact h1.2

/-- answers on which the machine can be led -/
structure Sound (P : Program) (G : Nat) (rc : Rec) : Prop where
  grow : RecGrow rc
  call : CallSim P (okK G) G rc
  round : RoundSim P (okK G) G rc
  code : CodeSim P (okK G) G rc

def SC (P : Program) (G : Nat) (f : FuncId) (args : List Value) (s : St) (Q : Value → St → Prop) : Prop :=
  s.WF → ∀ (β : Bij) (own : Nat → Option Nat) (w : World) (args' : Array Value), SR (okK G) β own s.get w → Glob β G → Shut β s → VRs β args args'.toList →
    ∃ v s' β' own' w' v', Q v s' ∧ s'.WF ∧ Grow s s' ∧ Ext β own s w β' own' s' w' ∧ SR (okK G) β' own' s'.get w' ∧ VR β' v v' ∧ (callFunc f args').run P w = .ok (.enter f args') w ∧ CallsTo P f args' w v' w'

/-- the same, wherever the numbers that are taken are free -/
def SCF (P : Program) (G : Nat) (f : FuncId) (args : List Value) (s : St) (Q : Value → St → Prop) : Prop :=
  s.WF → ∀ (β : Bij) (own : Nat → Option Nat) (w : World) (args' : Array Value), SR (okK G) β own s.get w → Glob β G → (∀ v s', Q v s' → Free β s s') → VRs β args args'.toList →
    ∃ v s' β' own' w' v', Q v s' ∧ s'.WF ∧ Grow s s' ∧ Ext β own s w β' own' s' w' ∧ SR (okK G) β' own' s'.get w' ∧ VR β' v v' ∧ (callFunc f args').run P w = .ok (.enter f args') w ∧ CallsTo P f args' w v' w'

def SK (P : Program) (G : Nat) (fid : FuncId) (c : Code) (e : Env) (s : St) (Q : Out → Env → St → Prop) : Prop :=
  s.WF → ∀ (β : Bij) (own : Nat → Option Nat) (w : World) (b : Frame) (t : Array Value) (ds : List Deferred) (n0 : Nat), SR (okK G) β own s.get w → Glob β G → Shut β s → ER β e t → okc G c = true → b.fn = fid → b.roundOf = none →
    Marks n0 ds own w → n0 ≤ w.heap.size →
    ∃ o e' s' β' own' w' t' ds', Q o e' s' ∧ s'.WF ∧ Grow s s' ∧ Ext β own s w β' own' s' w' ∧ SR (okK G) β' own' s'.get w' ∧ ER β' e' t' ∧ Marks n0 ds' own' w' ∧ Goes P b (start c) t ds w o t' ds' w'

section
variable {P : Program} {C : Cfg} {G : Nat}

theorem sound_run (H : CfgOk P C (okK G)) (n : Nat) : Sound P G (run C n) := ⟨grow_run n, (run_sim H (draw_sim H) n).1, (run_sim H (draw_sim H) n).2.1, (run_sim H (draw_sim H) n).2.2⟩
theorem Sound.step (H : CfgOk P C (okK G)) {rc : Rec} (h : Sound P G rc) : Sound P G (istep C rc) :=
  let x := istep_sim H (draw_sim H) h.grow h.call h.round h.code
  ⟨grow_istep h.grow, x.1, x.2.1, x.2.2⟩

theorem SC.up {f : FuncId} {args : List Value} {s : St} {Q Q' : Value → St → Prop} (h : SC P G f args s Q) (hq : ∀ v s', Q v s' → Q' v s') : SC P G f args s Q' := fun hw β own w args' h1 h2 h3 h4 =>
  let ⟨v, s', β', own', w', v', g1, g2⟩ := h hw β own w args' h1 h2 h3 h4
  ⟨v, s', β', own', w', v', hq _ _ g1, g2⟩
theorem SCF.sc {f : FuncId} {args : List Value} {s : St} {Q : Value → St → Prop} (h : SCF P G f args s Q) : SC P G f args s Q := fun hw β own w args' h1 h2 h3 h4 => h hw β own w args' h1 h2 (fun _ _ _ => h3.free) h4
theorem SK.up {fid : FuncId} {c : Code} {e : Env} {s : St} {Q Q' : Out → Env → St → Prop} (h : SK P G fid c e s Q) (hq : ∀ o e' s', Q o e' s' → Q' o e' s') : SK P G fid c e s Q' := fun hw β own w b t ds n0 h1 h2 h3 h4 h5 h6 h7 h8 h9 =>
  let ⟨o, e', s', β', own', w', t', ds', g1, g2⟩ := h hw β own w b t ds n0 h1 h2 h3 h4 h5 h6 h7 h8 h9
  ⟨o, e', s', β', own', w', t', ds', hq _ _ _ g1, g2⟩

theorem sc_rec {rc : Rec} (S : Sound P G rc) {f : FuncId} {args : List Value} {s : St} {Q : Value → St → Prop} (h : (rc (.call f args) s).All fun x => ∃ v, x.1 = .val v ∧ Q v x.2) : SC P G f args s Q := by
  intro hw β own w args' hs hG hsh ha
  obtain ⟨v, s', β', own', w', v', h1, h2, h3, h4, h5, h6⟩ := S.call β own s w f args args' hs hw hG ha (h.mono fun x _ => hsh.free)
  obtain ⟨v1, e1, hq⟩ := h.has h1
  simp only [Res.val.injEq] at e1
  subst e1
  obtain ⟨g1, g2⟩ := S.grow _ _ hw _ h1
  exact ⟨v, s', β', own', w', v', hq, g2, g1, h2, h3, h4, h5, h6⟩

/-! ### code -/
theorem sk_exec (H : CfgOk P C (okK G)) {rc : Rec} (S : Sound P G rc) {fid : FuncId} {c : Code} {e : Env} {s : St} {Q : Out → Env → St → Prop} (h : (execC C rc fid c e s).All fun x => Q x.1 x.2.1 x.2.2) : SK P G fid c e s Q := by
  intro hw β own w b t ds n0 hs hG hsh he hok hb hr hm hn
  obtain ⟨o, e', s', β', own', w', t', ds', h1, h2, h3, h4, h5, h6, h7⟩ := execC_sim H (draw_sim H) S.grow S.call S.round S.code fid b hb n0 c β own s w e t ds hs hw hG he hok (.inl hr) hm hn (h.mono fun x _ => hsh.free)
  exact ⟨o, e', s', β', own', w', t', ds', h.has h1, h2, (grow_execC S.grow c e s hw _ h1).1, h3, h4, h5, h6, h7⟩

theorem sk_skip {fid : FuncId} {e : Env} {s : St} {Q : Out → Env → St → Prop} (h : Q .normal e s) : SK P G fid .skip e s Q := by
  intro hw β own w b t ds n0 hs hG hsh he hok hb hr hm hn
  exact ⟨.normal, e, s, β, own, w, t, ds, h, hw, .refl _, .refl .., hs, he, hm, fun k cs => .one st_skip⟩
theorem sk_exit {fid id : Nat} {e : Env} {s : St} {Q : Out → Env → St → Prop} (h : Q (.exit id) e s) : SK P G fid (.exit id) e s Q := by
  intro hw β own w b t ds n0 hs hG hsh he hok hb hr hm hn
  exact ⟨.exit id, e, s, β, own, w, t, ds, h, hw, .refl _, .refl .., hs, he, hm, fun k cs => ⟨k, rfl, .refl _ _⟩⟩
theorem sk_ret {fid : Nat} {e : Env} {s : St} {Q : Out → Env → St → Prop} (h : Q .ret e s) : SK P G fid .ret e s Q := by
  intro hw β own w b t ds n0 hs hG hsh he hok hb hr hm hn
  exact ⟨.ret, e, s, β, own, w, t, ds, h, hw, .refl _, .refl .., hs, he, hm, fun k cs => ⟨k, .refl _ _⟩⟩

theorem sk_seq {fid : FuncId} {x y : Code} {e : Env} {s : St} {Q : Out → Env → St → Prop} (h : SK P G fid x e s fun o e1 s1 => match o with
      | .normal => SK P G fid y e1 s1 Q
      | o => Q o e1 s1) : SK P G fid (.seq x y) e s Q := by
  intro hw β own w b t ds n0 hs hG hsh he hok hb hr hm hn
  simp only [okc, Bool.and_eq_true] at hok
  obtain ⟨o, e1, s1, β1, own1, w1, t1, ds1, hq, hw1, g1, h2, h3, h4, h5, h6⟩ := h hw β own w b t ds n0 hs hG hsh he hok.1 hb hr hm hn
  have h6 := h6.before (st' := fun k => .code x :: k) (fun k cs => to_start ..)
  cases o with
  | normal =>
    obtain ⟨o, e2, s2, β2, own2, w2, t2, ds2, q1, qw, g2, q2, q3, q4, q5, q6⟩ := hq hw1 β1 own1 w1 b t1 ds1 n0 h3 (hG.mono h2.le) (hsh.ext h2) h4 hok.2 hb hr h5 (Nat.le_trans hn h2.size)
    have q6 := q6.before (st' := fun k => .code y :: k) (fun k cs => to_start ..)
    refine ⟨o, e2, s2, β2, own2, w2, t2, ds2, q1, qw, g1.trans g2, h2.trans q2, q3, q4, q5, ?_⟩
    have first : ∀ k cs, Steps P (lone (fgo b t ds (start (.seq x y) k)) cs w) (lone (fgo b t1 ds1 (.code y :: k)) cs w1) := fun k cs => .head st_seq (h6 (.code y :: k) cs)
    cases o with
    | normal => exact fun k cs => (first k cs).trans (q6 k cs)
    | exit id => exact fun k cs => let ⟨k1, r1, r2⟩ := q6 k cs; ⟨k1, r1, (first k cs).trans r2⟩
    | ret => exact fun k cs => let ⟨k1, r2⟩ := q6 k cs; ⟨k1, (first k cs).trans r2⟩
  | exit id => exact ⟨.exit id, e1, s1, β1, own1, w1, t1, ds1, hq, hw1, g1, h2, h3, h4, h5, fun k cs => let ⟨k1, r1, r2⟩ := h6 (.code y :: k) cs; ⟨k1, r1, .head st_seq r2⟩⟩
  | ret => exact ⟨.ret, e1, s1, β1, own1, w1, t1, ds1, hq, hw1, g1, h2, h3, h4, h5, fun k cs => let ⟨k1, r2⟩ := h6 (.code y :: k) cs; ⟨k1, .head st_seq r2⟩⟩

theorem sk_cond {fid : FuncId} {q : Operand} {x y : Code} {e : Env} {s : St} {Q : Out → Env → St → Prop} {v : Bool} (hv : e.eval q = .bool v) (h1 : v = true → SK P G fid x e s Q) (h2 : v = false → SK P G fid y e s Q) : SK P G fid (.cond q x y) e s Q := by
  intro hw β own w b t ds n0 hs hG hsh he hok hb hr hm hn
  simp only [okc, Bool.and_eq_true] at hok
  have hq := rho_all hG he q hok.1.1
  rw [hv] at hq
  cases v with
  | true =>
    obtain ⟨o, e1, s1, β1, own1, w1, t1, ds1, hq1, hw1, g1, g2, g3, g4, g5, g6⟩ := h1 rfl hw β own w b t ds n0 hs hG hsh he hok.1.2 hb hr hm hn
    refine ⟨o, e1, s1, β1, own1, w1, t1, ds1, hq1, hw1, g1, g2, g3, g4, g5, g6.before (st' := start (.cond q x y)) fun k cs => .head (st_cond (bool_inv hq)) ?_⟩
    exact to_start ..
  | false =>
    obtain ⟨o, e1, s1, β1, own1, w1, t1, ds1, hq1, hw1, g1, g2, g3, g4, g5, g6⟩ := h2 rfl hw β own w b t ds n0 hs hG hsh he hok.2 hb hr hm hn
    refine ⟨o, e1, s1, β1, own1, w1, t1, ds1, hq1, hw1, g1, g2, g3, g4, g5, g6.before (st' := start (.cond q x y)) fun k cs => .head (st_cond (bool_inv hq)) ?_⟩
    exact to_start ..

theorem sk_block {fid id : Nat} {x : Code} {e : Env} {s : St} {Q : Out → Env → St → Prop} (h : SK P G fid x e s fun o e1 s1 => match o with
      | .exit i => if i = id then Q .normal e1 s1 else Q (.exit i) e1 s1
      | o => Q o e1 s1) : SK P G fid (.block id x) e s Q := by
  intro hw β own w b t ds n0 hs hG hsh he hok hb hr hm hn
  obtain ⟨o, e1, s1, β1, own1, w1, t1, ds1, hq, hw1, g1, h2, h3, h4, h5, h6⟩ := h hw β own w b t ds n0 hs hG hsh he hok hb hr hm hn
  have h6 := h6.before (st' := fun k => .code x :: k) (fun k cs => to_start ..)
  cases o with
  | normal => exact ⟨.normal, e1, s1, β1, own1, w1, t1, ds1, hq, hw1, g1, h2, h3, h4, h5, fun k cs => .head st_block ((h6 (.inBlock id :: k) cs).trans (.one st_inBlock))⟩
  | exit i =>
    by_cases hi : i = id
    · subst hi
      simp only [if_true] at hq
      refine ⟨.normal, e1, s1, β1, own1, w1, t1, ds1, hq, hw1, g1, h2, h3, h4, h5, fun k cs => ?_⟩
      obtain ⟨k1, r1, r2⟩ := h6 (.inBlock i :: k) cs
      have : exitTo i k1 = some k := by rw [r1]; simp [exitTo]
      exact .head st_block (r2.trans (.one (st_exit this)))
    · simp only [if_neg hi] at hq
      refine ⟨.exit i, e1, s1, β1, own1, w1, t1, ds1, hq, hw1, g1, h2, h3, h4, h5, fun k cs => ?_⟩
      obtain ⟨k1, r1, r2⟩ := h6 (.inBlock id :: k) cs
      refine ⟨k1, ?_, .head st_block r2⟩
      rw [r1]
      have : ¬ id = i := fun h => hi h.symm
      simp [exitTo, this]
  | ret => exact ⟨.ret, e1, s1, β1, own1, w1, t1, ds1, hq, hw1, g1, h2, h3, h4, h5, fun k cs => let ⟨k1, r2⟩ := h6 (.inBlock id :: k) cs; ⟨k1, .head st_block r2⟩⟩

theorem sk_scope {fid : Nat} {x : Code} {e : Env} {s : St} {Q : Out → Env → St → Prop} (h : SK P G fid x e s Q) : SK P G fid (.scope x) e s Q := by
  intro hw β own w b t ds n0 hs hG hsh he hok hb hr hm hn
  obtain ⟨o, e1, s1, β1, own1, w1, t1, ds1, hq, hw1, g1, h2, h3, h4, h5, h6⟩ := h hw β own w b t ds n0 hs hG hsh he hok hb hr hm hn
  have h6 := h6.before (st' := fun k => .code x :: k) (fun k cs => to_start ..)
  refine ⟨o, e1, s1, β1, own1, w1, t1, ds1, hq, hw1, g1, h2, h3, h4, h5, ?_⟩
  cases o with
  | normal => exact fun k cs => .head st_scope ((h6 (.inScope x :: k) cs).trans (.one st_inScope))
  | exit i => exact fun k cs => let ⟨k1, r1, r2⟩ := h6 (.inScope x :: k) cs; ⟨k1, r1, .head st_scope r2⟩
  | ret => exact fun k cs => let ⟨k1, r2⟩ := h6 (.inScope x :: k) cs; ⟨k1, .head st_scope r2⟩

theorem sk_loop {fid : Nat} {x : Code} {e : Env} {s : St} {Q : Out → Env → St → Prop} (h : SK P G fid x e s fun o e1 s1 => match o with
      | .normal => SK P G fid (.loop x) e1 s1 Q
      | o => Q o e1 s1) : SK P G fid (.loop x) e s Q := by
  intro hw β own w b t ds n0 hs hG hsh he hok hb hr hm hn
  obtain ⟨o, e1, s1, β1, own1, w1, t1, ds1, hq, hw1, g1, h2, h3, h4, h5, h6⟩ := h hw β own w b t ds n0 hs hG hsh he hok hb hr hm hn
  have h6 := h6.before (st' := fun k => .code x :: k) (fun k cs => to_start ..)
  cases o with
  | normal =>
    obtain ⟨o, e2, s2, β2, own2, w2, t2, ds2, q1, qw, g2, q2, q3, q4, q5, q6⟩ := hq hw1 β1 own1 w1 b t1 ds1 n0 h3 (hG.mono h2.le) (hsh.ext h2) h4 hok hb hr h5 (Nat.le_trans hn h2.size)
    refine ⟨o, e2, s2, β2, own2, w2, t2, ds2, q1, qw, g1.trans g2, h2.trans q2, q3, q4, q5, ?_⟩
    have first : ∀ k cs, Steps P (lone (fgo b t ds (start (.loop x) k)) cs w) (lone (fgo b t1 ds1 (start (.loop x) k)) cs w1) := fun k cs => (h6 (.inLoop x :: k) cs).trans (.one st_inLoop)
    cases o with
    | normal => exact fun k cs => (first k cs).trans (q6 k cs)
    | exit id => exact fun k cs => let ⟨k1, r1, r2⟩ := q6 k cs; ⟨k1, r1, (first k cs).trans r2⟩
    | ret => exact fun k cs => let ⟨k1, r2⟩ := q6 k cs; ⟨k1, (first k cs).trans r2⟩
  | exit id => exact ⟨.exit id, e1, s1, β1, own1, w1, t1, ds1, hq, hw1, g1, h2, h3, h4, h5, fun k cs => let ⟨k1, r1, r2⟩ := h6 (.inLoop x :: k) cs; ⟨k1, r1, r2⟩⟩
  | ret => exact ⟨.ret, e1, s1, β1, own1, w1, t1, ds1, hq, hw1, g1, h2, h3, h4, h5, fun k cs => let ⟨k1, r2⟩ := h6 (.inLoop x :: k) cs; ⟨k1, r2⟩⟩

/-- a function's body -/
theorem sc_body (H : CfgOk P C (okK G)) {f : FuncId} {fn : Func} {c : Code} {args : List Value} {s : St} {Q : Value → St → Prop} (hfn : C.fn f = some fn) (hbd : fn.body = some c)
    (h : SK P G f c (Env.start fn.ntmps args) s fun o e1 s1 => match o with
      | .exit _ => False
      | _ => ∃ vs, resultsV C s1 e1 fn.results.toList = some vs ∧ Q (oneOrTuple vs) s1) : SC P G f args s Q := by
  intro hw β own w args' hs hG hsh ha
  obtain ⟨p1, p2, p3⟩ := H.fn f fn hfn
  let b : Frame := { fn := f, tmps := #[], todo := [], defers := [], mode := .run, kind := .normal }
  obtain ⟨o, e1, s1, β1, own1, w1, t1, ds1, hq, hw1, g1, h2, h3, h4, h5, h6⟩ := h hw β own w b _ [] w.heap.size hs hG hsh (er_start ha fn.ntmps) (p3 c hbd) rfl rfl (.nil ..) (Nat.le_refl _)
  have h6 := h6.before (st' := fun k => .code c :: k) (fun k cs => to_start ..)
  obtain ⟨bs, rfl, m2, m3⟩ := h5
  obtain ⟨w2, q1, q2, q3, q4, q5, q6, q7⟩ := pop_marks (P := P) bs w1 h3 m2 fun b hb => (m3 b hb).2
  have e2 : Ext β own s w β1 own1 s1 w2 := h2.other q2 (fun b hb => q3 b fun hm => by have := (m3 b hm).1; omega) q4 q5 q6
  have henter : Frame.enter P f args' .normal = fgo b (args' ++ Array.replicate (fn.ntmps - args'.size) undef) [] [.code c] := by simp [Frame.enter, fgo, p1, hbd, b]
  have hcf := callFunc_sim (w := w) H hfn hbd args'
  have fin : (∃ vs, resultsV C s1 e1 fn.results.toList = some vs ∧ Q (oneOrTuple vs) s1) → (∀ cs, ∃ k1, Steps P (lone (Frame.enter P f args' .normal) cs w) (lone { fgo b t1 (bs.map markOf) k1 with mode := .returning } cs w1)) →
      ∃ v s' β' own' w' v', Q v s' ∧ s'.WF ∧ Grow s s' ∧ Ext β own s w β' own' s' w' ∧ SR (okK G) β' own' s'.get w' ∧ VR β' v v' ∧ (callFunc f args').run P w = .ok (.enter f args') w ∧ CallsTo P f args' w v' w' := by
    intro hall hst
    obtain ⟨vs, hrs, hq⟩ := hall
    obtain ⟨v', r1, r2⟩ := run_results H q1 h4 hrs
    refine ⟨oneOrTuple vs, s1, β1, own1, w2, v', hq, hw1, g1, e2, q1, r2, hcf, fun cs => ?_⟩
    obtain ⟨k1, hk⟩ := hst cs
    exact ⟨_, hk.trans (q7 _ rfl rfl cs), rfl, rfl, rfl, rfl, fn, p1, r1⟩
  cases o with
  | exit id => exact hq.elim
  | normal =>
    refine fin hq (fun cs => ⟨[], ?_⟩)
    rw [henter]
    exact (h6 [] cs).trans (.one (st_end rfl))
  | ret =>
    refine fin hq (fun cs => ?_)
    rw [henter]
    obtain ⟨k1, hk⟩ := h6 [] cs
    exact ⟨_, hk.trans (.one (st_ret rfl))⟩

/-! ### contracts in a run -/
abbrev Contract := FuncId → List Value → St → Value → St → Prop

structure SpecOk (P : Program) (G : Nat) (S : Contract) : Prop where
  call : ∀ f args s v s', S f args s v s' → SCF P G f args s fun v1 s1 => v1 = v ∧ s1 = s'
  grow : ∀ f args s v s', S f args s v s' → s.WF → s'.WF ∧ Grow s s'

open Classical in
noncomputable def over (fs : List FuncId) (S : Contract) (rc : Rec) : Rec
  | .call f args, s => bif fs.contains f then (if h : ∃ x : Value × St, S f args s x.1 x.2 then .ret (.val h.choose.1, h.choose.2) else .fail) else rc (.call f args) s
  | t, s => rc t s

theorem over_hit {fs : List FuncId} {S : Contract} {rc : Rec} {f : FuncId} {args : List Value} {s s' : St} {v : Value} (hf : fs.contains f = true) (h : S f args s v s') :
    ∃ v1 s1, S f args s v1 s1 ∧ over fs S rc (.call f args) s = .ret (.val v1, s1) := by
  have hx : ∃ x : Value × St, S f args s x.1 x.2 := ⟨(v, s'), h⟩
  refine ⟨hx.choose.1, hx.choose.2, hx.choose_spec, ?_⟩
  simp only [over, hf, cond_true, dif_pos hx]

theorem sound_over {fs : List FuncId} {S : Contract} {rc : Rec} (hS : SpecOk P G S) (h : Sound P G rc) : Sound P G (over fs S rc) where
  grow := by
    intro t s hw x hx
    cases t with
    | call f args =>
      cases hf : fs.contains f with
      | false => simp only [over, hf, cond_false] at hx; exact h.grow _ _ hw _ hx
      | true =>
        simp only [over, hf, cond_true] at hx
        split at hx
        · rename_i hex
          cases hx
          exact (hS.grow _ _ _ _ _ hex.choose_spec hw).symm
        · cases hx
    | code fid c e => exact h.grow (.code fid c e) _ hw _ hx
    | round l args => exact h.grow (.round l args) _ hw _ hx
  call := by
    intro β own s w f args args' hs hw hG ha hf
    cases hc : fs.contains f with
    | false =>
      simp only [over, hc, cond_false] at hf ⊢
      exact h.call β own s w f args args' hs hw hG ha hf
    | true =>
      simp only [over, hc, cond_true] at hf ⊢
      split at hf
      · rename_i hex
        rw [dif_pos hex]
        obtain ⟨v, s', β', own', w', v', ⟨rfl, rfl⟩, _, _, h2, h3, h4, h5, h6⟩ := hS.call _ _ _ _ _ hex.choose_spec hw β own w args' hs hG (by rintro v s' ⟨rfl, rfl⟩; exact hf) ha
        exact ⟨_, _, β', own', w', v', .ret _, h2, h3, h4, h5, h6⟩
      · exact hf.elim
  round := h.round
  code := h.code

end
end Go.Ai
