/-
  A closed call that comes to 'true' as a contract; the way from a contract to a law's statement.
-/
import Derived.Test.YtfnbgfmmlgbfjaaGreatDoorAiEv3
import Derived.Test.YtfnbgfmmlgbfjaaGreatDoorAiPost
namespace Go.Ai

def allTrueN (N : Nat) : M (Res × St) → Bool
  | .ret (.val v, s) => isTrue v && Nat.ble s.n N
  | _ => false
theorem allTrueN_all {N : Nat} {m : M (Res × St)} (h : allTrueN N m = true) : m.All fun x => ∃ v, x.1 = .val v ∧ (v = .bool true ∧ x.2.n ≤ N) := by
  unfold allTrueN at h
  split at h
  · rename_i v s
    rw [Bool.and_eq_true] at h
    refine ⟨v, rfl, ?_, Nat.le_of_ble_eq_true h.2⟩
    have h1 := h.1
    unfold isTrue at h1
    split at h1
    · rfl
    · cases h1
  · cases h

section
variable {P : Program} {C : Cfg}

def ClosedTrue (fs : List FuncId) : Contract := fun f args s v s' => f ∈ fs ∧ args = [] ∧ v = .bool true ∧ s' = s

theorem closed_ok (H : CfgOk P C (okK 0)) (n N : Nat) {fs : List FuncId} (h : ∀ f ∈ fs, allTrueN N (run C n (.call f []) (St.empty 0)) = true) : SpecOk P 0 (ClosedTrue fs) where
  call := by
    rintro f args s v s' ⟨hf, rfl, rfl, rfl⟩ hw
    refine sc_frame (fun _ _ => False) (G := 0) (k := 0) (ρ := fun i => i) (s := s') (s0 := St.empty 0) (fit_id rfl (Nat.zero_le _) (wf_empty 0) (Nat.le_refl _) (fun i hi => by omega) (fun i hi => by omega)) N (fun _ _ _ _ _ h => h.elim) (args := []) (args0 := []) .nil
      (sc_rec (Q := fun v x => v = .bool true ∧ x.n ≤ N) (sound_run H n) (allTrueN_all (h f hf))) ?_ hw
    rintro _ v0 s0' ⟨rfl, hn⟩ hw0 hg
    exact ⟨hn, _, .bool true, s', ⟨rfl, rfl⟩, .bool true, back_id (Nat.zero_le _) hw (fun i hi => by omega) (fun i hi => by omega) (fun i hi => by omega), fun i hi => by omega⟩
  grow := by
    rintro f args s v s' ⟨_, _, _, rfl⟩ hw
    exact ⟨hw, .refl _⟩

/-- a law that is proved by its contract -/
theorem calls_sc {f : FuncId} {args : List Value} {args' : Array Value} {s : St} {β : Bij} {w : World} (hs : SR (okK 0) β own00 s.get w) (hw : s.WF) (hd : Shut β s) (ha : VRs β args args'.toList)
    (h : SC P 0 f args s fun v _ => v = .bool true) : Calls P f args' w fun e w' => e = .returned (.bool true) ∧ RowKit.Below w.heap.size w w' := by
  have hG : Glob β 0 := fun g hg => absurd hg (Nat.not_lt_zero g)
  obtain ⟨v, s', β', own', w', v', rfl, _, _, h2, h3, h4, _, h6⟩ := h hw β own00 w args' hs hG hd ha
  obtain rfl := bool_inv h4
  intro cs
  obtain ⟨fr, q1, q2, q3⟩ := h6 cs
  exact ⟨.returned (.bool true), w', fr, ⟨rfl, h2.os, h2.tape, h2.output, h2.size, fun k hk => (h2.cframe k hk fun i hi => by cases hi).2⟩, q1, q2, q3⟩

/-! ### steps -/
theorem sk_region (H : CfgOk P C (okK 0)) {rc : Rec} (S : Sound P 0 rc) {fid id : Nat} {ops : Array Oper} {b : Code} {e : Env} {s : St} {Q : Out → Env → St → Prop}
    (h : (execOps C rc ops ops.toList e s).All fun x => SK P 0 fid b x.1 x.2 Q) : SK P 0 fid (.seq (.region id ops false) b) e s Q :=
  sk_seq (sk_exec H S (c_region (Q := fun o e1 s1 => match o with | .normal => SK P 0 fid b e1 s1 Q | o => Q o e1 s1) h))
/-- a part that runs to its end, whatever it calls -/
theorem sk_known (H : CfgOk P C (okK 0)) {rc : Rec} (S : Sound P 0 rc) {fid : Nat} {a b : Code} {e : Env} {s : St} {Q : Out → Env → St → Prop}
    (h : isNormal (execC C rc fid a e s) = true) (hQ : SK P 0 fid b (outEnv (execC C rc fid a e s)) (outSt (execC C rc fid a e s)) Q) : SK P 0 fid (.seq a b) e s Q :=
  sk_seq (sk_exec H S (c_known (Q := fun o e1 s1 => match o with | .normal => SK P 0 fid b e1 s1 Q | o => Q o e1 s1) h hQ))
/-- a guard that does not hold -/
theorem sk_else {fid : Nat} {q : Operand} {x b : Code} {e : Env} {s : St} {Q : Out → Env → St → Prop} (hv : e.eval q = .bool false) (h : SK P 0 fid b e s Q) : SK P 0 fid (.seq (.cond q x .skip) b) e s Q :=
  sk_seq (sk_cond hv (fun h => by cases h) fun _ => sk_skip h)
/-- a guard -/
theorem sk_guard {fid : Nat} {q : Operand} {x b : Code} {e : Env} {s : St} {Q : Out → Env → St → Prop} (hv : e.eval q = .bool (asB (e.eval q))) (ht : asB (e.eval q) = true → SK P 0 fid x e s fun o e1 s1 => match o with
      | .normal => SK P 0 fid b e1 s1 Q
      | o => Q o e1 s1) (h : asB (e.eval q) = false → SK P 0 fid b e s Q) : SK P 0 fid (.seq (.cond q x .skip) b) e s Q :=
  sk_seq (sk_cond hv ht fun hf => sk_skip (h hf))

/-- a contract of a call that leaves all as it was, from a run in a small memory -/
theorem scf_of_ev (H : CfgOk P C (okK 0)) {k N : Nat} {f : FuncId} {args : List Value} {s s0 : St} {v : Value} (hk : s0.n = k) (hn : k ≤ s.n) (hw0 : s0.WF) (hget : ∀ i, i < k → s.get i = s0.get i)
    (hself : ∀ i, i < k → ORel (idR k) (s0.get i) (s0.get i)) (hargs : Subs (idR k) args args) (h : EvF C f args s0 fun v0 s' => s'.n ≤ N ∧ (∀ i, i < k → s'.get i = s0.get i) ∧ Sub (idR k) v0 v) : SCF P 0 f args s fun v1 s1 => v1 = v ∧ s1 = s := by
  intro hsw
  obtain ⟨n, hr⟩ := h
  have hR : ∀ i sp j, idR k i sp j → j < k ∧ j = i := by rintro i sp j ⟨h, rfl⟩; exact ⟨h, rfl⟩
  refine sc_frame (fun _ _ => False) (G := 0) (k := k) (ρ := fun i => i) (s := s) (s0 := s0) (fit_id hk hn hw0 (Nat.zero_le _) hget hself) N (fun _ _ _ _ _ h => h.elim) (hargs.mono hR)
    (sc_rec (Q := fun v0 s' => s'.n ≤ N ∧ (∀ i, i < k → s'.get i = s0.get i) ∧ Sub (idR k) v0 v) (sound_run H n) hr) ?_ hsw
  rintro _ v0 s0' ⟨h1, h2, h3⟩ hw0' hg
  refine ⟨h1, _, v, s, ⟨rfl, rfl⟩, h3.mono ?_, back_id hn hsw hget hself h2, fun i hi => .inr fun _ => rfl⟩
  rintro i sp j ⟨h, rfl⟩
  exact .inl (if_pos h)

theorem sk_regionA (H : CfgOk P C (okK 0)) {rc : Rec} (S : Sound P 0 rc) {fid id : Nat} {ops : Array Oper} {e : Env} {s : St} {Q : Out → Env → St → Prop}
    (h : (execOps C rc ops ops.toList e s).All fun x => Q .normal x.1 x.2) : SK P 0 fid (.region id ops false) e s Q := sk_exec H S (c_region h)
theorem sk_regionK (H : CfgOk P C (okK 0)) {rc : Rec} (S : Sound P 0 rc) {fid id : Nat} {ops : Array Oper} {e : Env} {s : St} {Q : Out → Env → St → Prop}
    (h : isRet (execOps C rc ops ops.toList e s) = true) (hQ : Q .normal (getEnv (execOps C rc ops ops.toList e s)) (getSt (execOps C rc ops ops.toList e s))) : SK P 0 fid (.region id ops false) e s Q := by
  refine sk_regionA H S ?_
  rw [isRet_eq h]
  exact hQ
theorem sk_true {fid : Nat} {q : Operand} {x y : Code} {e : Env} {s : St} {Q : Out → Env → St → Prop} (hv : e.eval q = .bool true) (h : SK P 0 fid x e s Q) : SK P 0 fid (.cond q x y) e s Q := sk_cond hv (fun _ => h) (fun h => by cases h)
theorem sk_false {fid : Nat} {q : Operand} {x y : Code} {e : Env} {s : St} {Q : Out → Env → St → Prop} (hv : e.eval q = .bool false) (h : SK P 0 fid y e s Q) : SK P 0 fid (.cond q x y) e s Q := sk_cond hv (fun h => by cases h) (fun _ => h)

/-! ### regions with contracts -/
def AllL (C : Cfg) (rc : Rec) (ops : Array Oper) (l : List Oper) (e : Env) (s : St) (R : Env → St → Prop) : Prop := (execOps C rc ops l e s).All fun x => R x.1 x.2
theorem sk_regionL (H : CfgOk P C (okK 0)) {rc : Rec} (S : Sound P 0 rc) {fid id : Nat} {ops : Array Oper} {e : Env} {s : St} {Q : Out → Env → St → Prop} (h : AllL C rc ops ops.toList e s (Q .normal)) : SK P 0 fid (.region id ops false) e s Q :=
  sk_regionA H S h
theorem al_known {rc : Rec} {ops : Array Oper} {l : List Oper} {e : Env} {s : St} {R : Env → St → Prop} (h : isRet (execOps C rc ops l e s) = true) (hR : R (getEnv (execOps C rc ops l e s)) (getSt (execOps C rc ops l e s))) : AllL C rc ops l e s R := ops_known h hR
theorem al_chunk (k : Nat) {rc : Rec} {ops : Array Oper} {l : List Oper} {e : Env} {s : St} {R : Env → St → Prop} (h : isRet (execOps C rc ops (l.take k) e s) = true)
    (hR : AllL C rc ops (l.drop k) (getEnv (execOps C rc ops (l.take k) e s)) (getSt (execOps C rc ops (l.take k) e s)) R) : AllL C rc ops l e s R := ops_chunk k h hR
theorem al_nil {rc : Rec} {ops : Array Oper} {e : Env} {s : St} {R : Env → St → Prop} (h : R e s) : AllL C rc ops [] e s R := h
/-- a call that has a contract and leaves all as it was -/
theorem al_call {fs : List FuncId} {Sp : Contract} {rc : Rec} (f : FuncId) (args : List Value) (v : Value) {ops : Array Oper} {o : Oper} {l : List Oper} {e : Env} {s : St} {c : Call} {R : Env → St → Prop} (hop : o.op = .call c) (hb : ∀ b, c.callee ≠ .builtin b)
    (hw : Region.wanted o (yieldedV ops e) = true) (ht : target C s e.eval c = some (.call f args)) (hf : fs.contains f = true) (hx : Sp f args s v s) (hu : ∀ v1 s1, Sp f args s v1 s1 → v1 = v ∧ s1 = s)
    (h : AllL C (over fs Sp rc) ops l (e.dst o.dst v) s R) : AllL C (over fs Sp rc) ops (o :: l) e s R := by
  refine ops_call (Q := fun v1 s1 => v1 = v ∧ s1 = s) (c := c) (args := args) (f := f) hw ?_ ht (over_all hf ⟨v, s, hx⟩ hu) (by rintro v1 s1 ⟨rfl, rfl⟩; exact h)
  rw [hop]
  unfold oneOp
  split
  · rename_i h1
    cases h1
    exact absurd rfl (hb _)
  · rename_i h1
    cases h1
    rfl
  · rename_i h1; cases h1
  · rename_i h1 _
    exact absurd rfl (h1 _)

/-! ### calls that leave memory alone; runs and contracts side by side -/
theorem over_le {fs : List FuncId} {Sp : Contract} {rc rc' : Rec} (h : RecLe rc rc') : RecLe (over fs Sp rc) (over fs Sp rc') := by
  intro t s
  cases t with
  | call f args =>
    simp only [over]
    cases fs.contains f with
    | true => exact .refl _
    | false => exact h _ _
  | code fid c e => exact h _ _
  | round l args => exact h _ _
theorem al_chunkN (N k : Nat) {m : Nat} (hN : N ≤ m) {fs : List FuncId} {Sp : Contract} {ops : Array Oper} {l : List Oper} {e : Env} {s : St} {R : Env → St → Prop} (h : isRet (execOps C (over fs Sp (run C N)) ops (l.take k) e s) = true)
    (hR : AllL C (over fs Sp (run C m)) ops (l.drop k) (getEnv (execOps C (over fs Sp (run C N)) ops (l.take k) e s)) (getSt (execOps C (over fs Sp (run C N)) ops (l.take k) e s)) R) : AllL C (over fs Sp (run C m)) ops l e s R := by
  unfold AllL
  rw [← List.take_append_drop k l, ops_append, M.all_bind]
  refine (execOps_mono (over_le (run_mono hN)) (l.take k) e s).all ?_
  rw [isRet_eq h]
  exact hR
theorem al_knownN (N : Nat) {m : Nat} (hN : N ≤ m) {fs : List FuncId} {Sp : Contract} {ops : Array Oper} {l : List Oper} {e : Env} {s : St} {R : Env → St → Prop} (h : isRet (execOps C (over fs Sp (run C N)) ops l e s) = true)
    (hR : R (getEnv (execOps C (over fs Sp (run C N)) ops l e s)) (getSt (execOps C (over fs Sp (run C N)) ops l e s))) : AllL C (over fs Sp (run C m)) ops l e s R := by
  unfold AllL
  refine (execOps_mono (over_le (run_mono hN)) l e s).all ?_
  rw [isRet_eq h]
  exact hR
/-- a call that was looked at in a run -/
theorem al_callE {fs : List FuncId} {Sp : Contract} {m : Nat} (f : FuncId) (args : List Value) {ops : Array Oper} {o : Oper} {l : List Oper} {e : Env} {s : St} {c : Call} {R : Env → St → Prop} {Q : Value → St → Prop} (hop : o.op = .call c) (hb : ∀ b, c.callee ≠ .builtin b)
    (hw : Region.wanted o (yieldedV ops e) = true) (ht : target C s e.eval c = some (.call f args)) (hf : fs.contains f = false) (hr : (run C m (.call f args) s).All fun x => ∃ v, x.1 = .val v ∧ Q v x.2)
    (h : ∀ v s1, Q v s1 → AllL C (over fs Sp (run C m)) ops l (e.dst o.dst v) s1 R) : AllL C (over fs Sp (run C m)) ops (o :: l) e s R := by
  refine ops_call (Q := Q) (c := c) (args := args) (f := f) hw ?_ ht (by simp only [over, hf, cond_false]; exact hr) h
  rw [hop]
  unfold oneOp
  split
  · rename_i h1
    cases h1
    exact absurd rfl (hb _)
  · rename_i h1
    cases h1
    rfl
  · rename_i h1; cases h1
  · rename_i h1 _
    exact absurd rfl (h1 _)

theorem sk_ev (H : CfgOk P C (okK 0)) {fid : Nat} {c : Code} {e : Env} {s : St} {Q : Out → Env → St → Prop} (h : EvC C fid c e s Q) : SK P 0 fid c e s Q := by
  obtain ⟨n, h⟩ := h
  exact sk_exec H (sound_run H n) h

theorem scf_pure (H : CfgOk P C (okK 0)) {f : FuncId} {args : List Value} {s : St} {v : Value} (h : EvF C f args s fun v1 s1 => v1 = v ∧ s1 = s) : SCF P 0 f args s fun v1 s1 => v1 = v ∧ s1 = s := by
  intro hw β own w args' hs hG _ ha
  obtain ⟨n, h⟩ := h
  obtain ⟨v1, s', β', own', w', v', h1, h2, h3, h4, h5, h6⟩ := (sound_run H n).call β own s w f args args' hs hw hG ha (h.mono fun x hx i _ => by
    obtain ⟨_, _, _, e⟩ := hx
    rw [e]
    exact Nat.lt_or_ge i s.n)
  obtain ⟨v2, e1, hq⟩ := h.has h1
  simp only [Res.val.injEq] at e1
  subst e1
  obtain ⟨g1, g2⟩ := (sound_run H n).grow _ _ hw _ h1
  exact ⟨v1, s', β', own', w', v', hq, g2, g1, h2, h3, h4, h5, h6⟩
/-- a call that has a contract -/
theorem al_callN {fs : List FuncId} {Sp : Contract} {rc : Rec} (f : FuncId) (args : List Value) (v : Value) (s' : St) {ops : Array Oper} {o : Oper} {l : List Oper} {e : Env} {s : St} {c : Call} {R : Env → St → Prop} (hop : o.op = .call c) (hb : ∀ b, c.callee ≠ .builtin b)
    (hw : Region.wanted o (yieldedV ops e) = true) (ht : target C s e.eval c = some (.call f args)) (hf : fs.contains f = true) (hx : Sp f args s v s') (hu : ∀ v1 s1, Sp f args s v1 s1 → v1 = v ∧ s1 = s')
    (h : AllL C (over fs Sp rc) ops l (e.dst o.dst v) s' R) : AllL C (over fs Sp rc) ops (o :: l) e s R := by
  refine ops_call (Q := fun v1 s1 => v1 = v ∧ s1 = s') (c := c) (args := args) (f := f) hw ?_ ht (over_all hf ⟨v, s', hx⟩ hu) (by rintro v1 s1 ⟨rfl, rfl⟩; exact h)
  rw [hop]
  unfold oneOp
  split
  · rename_i h1
    cases h1
    exact absurd rfl (hb _)
  · rename_i h1
    cases h1
    rfl
  · rename_i h1; cases h1
  · rename_i h1 _
    exact absurd rfl (h1 _)
theorem al_op {rc : Rec} {ops : Array Oper} {o : Oper} {l : List Oper} {e : Env} {s s1 : St} {v : Value} {R : Env → St → Prop} (hw : Region.wanted o (yieldedV ops e) = true) (ho : oneOp C rc e s o.op = .ofOption (evalOp C e.eval s o.op))
    (hv : evalOp C e.eval s o.op = some (v, s1)) (h : AllL C rc ops l (e.dst o.dst v) s1 R) : AllL C rc ops (o :: l) e s R := ops_op hw ho hv h
theorem all_of_eq {n : Nat} {t : Task} {s s1 : St} {Q : Res × St → Prop} (h : s = s1) (hr : (run C n t s1).All Q) : (run C n t s).All Q := h ▸ hr

/-! ### the state told anew -/
theorem sk_st {fid : FuncId} {c : Code} {e : Env} {s : St} {Q : Out → Env → St → Prop} (s1 : St) (h : s = s1) (hk : SK P 0 fid c e s1 Q) : SK P 0 fid c e s Q := h ▸ hk
theorem evl_st {ops : Array Oper} {l : List Oper} {e : Env} {s : St} {R : Env → St → Prop} (s1 : St) (h : s = s1) (hk : EvL C ops l e s1 R) : EvL C ops l e s R := h ▸ hk
theorem al_st {rc : Rec} {ops : Array Oper} {l : List Oper} {e : Env} {s : St} {R : Env → St → Prop} (s1 : St) (h : s = s1) (hk : AllL C rc ops l e s1 R) : AllL C rc ops l e s R := h ▸ hk

theorem al_beq (x : Int) {rc : Rec} {ops : Array Oper} {o : Oper} {l : List Oper} {e : Env} {s : St} {R : Env → St → Prop} (hw : Region.wanted o (yieldedV ops e) = true) (ho : oneOp C rc e s o.op = .ofOption (evalOp C e.eval s o.op))
    (hv : evalOp C e.eval s o.op = some (.bool (x == x), s)) (h : AllL C rc ops l (e.dst o.dst (.bool true)) s R) : AllL C rc ops (o :: l) e s R := al_op hw ho (hv.trans (by rw [beq_self_eq_true])) h

end
end Go.Ai
