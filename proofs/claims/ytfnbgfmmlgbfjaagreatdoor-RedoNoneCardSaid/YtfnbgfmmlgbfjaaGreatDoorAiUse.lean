/-
  Rules for use: chunks of a region, dead slots, what is made in a round and no longer reached.
-/
import Derived.Test.YtfnbgfmmlgbfjaaGreatDoorAiLay
import Derived.Test.YtfnbgfmmlgbfjaaGreatDoorAiEv2
namespace Go.Ai

section
variable {C : Cfg} {rc : Rec}

/-! ### regions -/
theorem ops_known {ops : Array Oper} {l : List Oper} {e : Env} {s : St} {R : Env → St → Prop} (h : isRet (execOps C rc ops l e s) = true) (hR : R (getEnv (execOps C rc ops l e s)) (getSt (execOps C rc ops l e s))) : (execOps C rc ops l e s).All fun x => R x.1 x.2 := by
  rw [isRet_eq h]
  exact hR
theorem ops_cons {ops : Array Oper} (o : Oper) (l : List Oper) (e : Env) (s : St) : execOps C rc ops (o :: l) e s = if Region.wanted o (yieldedV ops e) = true then (oneOp C rc e s o.op).bind (fun x => execOps C rc ops l (e.dst o.dst x.1) x.2) else execOps C rc ops l (e.dst o.dst undef) s := rfl
theorem ops_append {ops : Array Oper} : ∀ (l m : List Oper) (e : Env) (s : St), execOps C rc ops (l ++ m) e s = (execOps C rc ops l e s).bind fun x => execOps C rc ops m x.1 x.2
  | [], m, e, s => rfl
  | o :: l, m, e, s => by
    have assoc : ∀ {α β γ : Type} (x : M α) (f : α → M β) (g : β → M γ), (x.bind f).bind g = x.bind fun a => (f a).bind g := by
      intro α β γ x f g
      induction x with
      | ret a => rfl
      | fail => rfl
      | ask n k ih => simp only [M.bind]; congr 1; funext i; exact ih i
    rw [List.cons_append, ops_cons, ops_cons]
    split
    · rw [assoc]
      congr 1
      funext x
      exact ops_append l m _ _
    · exact ops_append l m _ _
theorem ops_chunk (k : Nat) {ops : Array Oper} {l : List Oper} {e : Env} {s : St} {R : Env → St → Prop} (h : isRet (execOps C rc ops (l.take k) e s) = true)
    (hR : (execOps C rc ops (l.drop k) (getEnv (execOps C rc ops (l.take k) e s)) (getSt (execOps C rc ops (l.take k) e s))).All fun x => R x.1 x.2) : (execOps C rc ops l e s).All fun x => R x.1 x.2 := by
  conv => rw [← List.take_append_drop k l]
  rw [ops_append, M.all_bind, isRet_eq h]
  exact hR
theorem ops_nil {ops : Array Oper} {e : Env} {s : St} {R : Env → St → Prop} (h : R e s) : (execOps C rc ops [] e s).All fun x => R x.1 x.2 := h
/-- an operation whose answer is known -/
theorem ops_op {ops : Array Oper} {o : Oper} {l : List Oper} {e : Env} {s s1 : St} {v : Value} {R : Env → St → Prop} (hw : Region.wanted o (yieldedV ops e) = true) (ho : oneOp C rc e s o.op = .ofOption (evalOp C e.eval s o.op))
    (hv : evalOp C e.eval s o.op = some (v, s1)) (h : (execOps C rc ops l (e.dst o.dst v) s1).All fun x => R x.1 x.2) : (execOps C rc ops (o :: l) e s).All fun x => R x.1 x.2 := by
  unfold execOps
  rw [if_pos hw, ho, hv]
  exact h
theorem ops_skip {ops : Array Oper} {o : Oper} {l : List Oper} {e : Env} {s : St} {R : Env → St → Prop} (hw : Region.wanted o (yieldedV ops e) = false)
    (h : (execOps C rc ops l (e.dst o.dst undef) s).All fun x => R x.1 x.2) : (execOps C rc ops (o :: l) e s).All fun x => R x.1 x.2 := by
  unfold execOps
  rw [if_neg (by rw [hw]; exact Bool.false_ne_true)]
  exact h
/-- a call -/
theorem ops_call {ops : Array Oper} {o : Oper} {l : List Oper} {e : Env} {s : St} {f : FuncId} {args : List Value} {c : Call} {Q : Value → St → Prop} {R : Env → St → Prop} (hw : Region.wanted o (yieldedV ops e) = true)
    (ho : oneOp C rc e s o.op = (match target C s e.eval c with | some t => (rc t s).bind valOnly | none => .fail)) (ht : target C s e.eval c = some (.call f args)) (hc : (rc (.call f args) s).All fun x => ∃ v, x.1 = .val v ∧ Q v x.2)
    (h : ∀ v s1, Q v s1 → (execOps C rc ops l (e.dst o.dst v) s1).All fun x => R x.1 x.2) : (execOps C rc ops (o :: l) e s).All fun x => R x.1 x.2 := by
  unfold execOps
  rw [if_pos hw, ho, ht, M.all_bind, M.all_bind]
  refine hc.mono fun x hx => ?_
  obtain ⟨r, s1⟩ := x
  obtain ⟨v, rfl, hq⟩ := hx
  exact h v s1 hq
theorem over_all {fs : List FuncId} {S : Contract} {f : FuncId} {args : List Value} {s : St} {Q : Value → St → Prop} (hf : fs.contains f = true) (hx : ∃ v s', S f args s v s') (hq : ∀ v s', S f args s v s' → Q v s') :
    (over fs S rc (.call f args) s).All fun x => ∃ v, x.1 = .val v ∧ Q v x.2 := by
  obtain ⟨v, s', h⟩ := hx
  obtain ⟨v1, s1, h1, h2⟩ := over_hit (rc := rc) hf h
  rw [h2]
  exact ⟨v1, rfl, hq _ _ h1⟩

theorem c_region {fid id : Nat} {ops : Array Oper} {e : Env} {s : St} {Q : Out → Env → St → Prop} (h : (execOps C rc ops ops.toList e s).All fun x => Q .normal x.1 x.2) : (execC C rc fid (.region id ops false) e s).All fun x => Q x.1 x.2.1 x.2.2 := by
  unfold execC
  simp only [cond_false]
  rw [M.all_bind]
  exact h
theorem c_known {fid : Nat} {c : Code} {e : Env} {s : St} {Q : Out → Env → St → Prop} (h : isNormal (execC C rc fid c e s) = true) (hQ : Q .normal (outEnv (execC C rc fid c e s)) (outSt (execC C rc fid c e s))) : (execC C rc fid c e s).All fun x => Q x.1 x.2.1 x.2.2 := by
  generalize execC C rc fid c e s = m at h hQ
  unfold isNormal at h
  split at h
  · exact hQ
  · cases h
end

/-! ### dead slots -/
def eraseEnv (live : List Nat) (e : Env) : Env := ⟨e.n, T.ofList ((List.range e.n).map fun j => bif live.contains j then e.get j else erase (e.get j))⟩
theorem eraseEnv_get (live : List Nat) (e : Env) (j : Nat) : (eraseEnv live e).get j = if j < e.n then (bif live.contains j then e.get j else erase (e.get j)) else undef := by
  by_cases h : j < e.n
  · rw [if_pos h]
    have hb : Nat.blt j e.n = true := by simp [Nat.blt]; omega
    simp only [eraseEnv, Env.get, hb, cond_true, T.get_ofList, List.getElem?_map, List.getElem?_range h, Option.map_some, Option.getD_some]
  · rw [if_neg h, Env.get_big]
    exact Nat.le_of_not_lt h
theorem esub_erase {R : Nat → Option Nat → Nat → Prop} {live : List Nat} {e : Env} (h : ∀ j ∈ live, Sub R (e.get j) (e.get j)) : ESub R e (eraseEnv live e) := by
  refine ⟨rfl, fun j hj => ?_⟩
  rw [eraseEnv_get, if_pos hj]
  cases hc : live.contains j with
  | true => exact h j (by simpa using hc)
  | false => exact sub_erase _


/-! ### what is made and no longer reached -/
section
variable {P : Program} {G : Nat}

theorem fit_id {k : Nat} {s s0 : St} (hk : s0.n = k) (hn : k ≤ s.n) (hw : s0.WF) (hG : G ≤ k) (hget : ∀ i, i < k → s.get i = s0.get i) (hself : ∀ i, i < k → ORel (idR k) (s0.get i) (s0.get i)) : Fit G k (fun i => i) s s0 where
  num := hk
  inj _ _ _ _ h := .inl h
  lt i hi := by omega
  obj i hi := by
    rw [hget i hi]
    have := hself i hi
    cases hg : s0.get i with
    | none => trivial
    | some o =>
      rw [hg] at this
      have mono : ∀ {o o2 : AObj}, OSub (idR k) o o2 → OSub (fun j _ i => i < k ∧ i = j) o o2 := by
        have hR : ∀ i sp j, idR k i sp j → j < k ∧ j = i := by rintro i sp j ⟨h, rfl⟩; exact ⟨h, rfl⟩
        have ents : ∀ {a b : List MapEntry}, EntsS (idR k) a b → EntsS (fun j _ i => i < k ∧ i = j) a b := by
          intro a b h
          induction h with
          | nil => exact .nil
          | cons h _ ih => exact .cons (h.mono hR) ih
        intro o o2 h
        cases h with
        | cells h => exact .cells (h.mono hR)
        | arr h => exact .arr (h.mono hR)
        | map h => exact .map (ents h)
        | iterNil => exact .iterNil
        | iter h => exact .iter (hR _ _ _ h)
        | siter => exact .siter
      exact mono this
  glob g hg := ⟨by omega, rfl⟩
  wf := hw

theorem back_id {k : Nat} {s s0 s0' : St} (_hn : k ≤ s.n) (hsw : s.WF) (hget : ∀ i, i < k → s.get i = s0.get i) (hself : ∀ i, i < k → ORel (idR k) (s0.get i) (s0.get i)) (hsame : ∀ i, i < k → s0'.get i = s0.get i) :
    Back k (fun i => i) (fun _ _ => False) s s0 s0' (fun i => if i < k then some i else none) s where
  old i hi := .inl (if_pos hi)
  cons i i' hi _ _ h := by rw [if_pos hi] at h; cases h
  new i j hi h := by rw [if_neg (by omega)] at h; cases h
  inj i i' j h h' := by
    split at h
    · split at h'
      · rw [Option.some.inj h, Option.some.inj h']
      · cases h'
    · cases h
  obj i j h := by
    split at h
    · rename_i hi
      obtain rfl := Option.some.inj h
      rw [hsame i hi, hget i hi]
      have := hself i hi
      cases hg : s0.get i with
      | none => trivial
      | some o =>
        rw [hg] at this
        have hR : ∀ i sp j, idR k i sp j → Ways k (fun i => i) (fun i => if i < k then some i else none) (fun _ _ => False) i sp j := by rintro i sp j ⟨h, rfl⟩; exact .inl (if_pos h)
        have ents : ∀ {a b : List MapEntry}, EntsS (idR k) a b → EntsS (Ways k (fun i => i) (fun i => if i < k then some i else none) (fun _ _ => False)) a b := by
          intro a b h
          induction h with
          | nil => exact .nil
          | cons h _ ih => exact .cons (h.mono hR) ih
        have this : OSub (idR k) o o := this
        show OSub _ o o
        cases this with
        | cells h => exact .cells (h.mono hR)
        | arr h => exact .arr (h.mono hR)
        | map h => exact .map (ents h)
        | iterNil => exact .iterNil
        | iter h => exact .iter (hR _ _ _ h)
        | siter => exact .siter
    · cases h
  rest j hj h := rfl
  n := Nat.le_refl _
  wf := hsw
  grow := .refl _

/-- a part of the code that writes nothing that is older: what it makes is dropped, and dead slots are -/
theorem sk_drop (k N : Nat) (live out : List Nat) {fid : FuncId} {c : Code} {e : Env} {s s0 : St} {Q0 Q : Out → Env → St → Prop} (hk : s0.n = k) (hn : k ≤ s.n) (hw : s0.WF) (hsw : s.WF) (hG : G ≤ k) (hget : ∀ i, i < k → s.get i = s0.get i)
    (hself : ∀ i, i < k → ORel (idR k) (s0.get i) (s0.get i)) (hlive : ∀ j ∈ live, Sub (idR k) (e.get j) (e.get j)) (h0 : SK P G fid c (eraseEnv live e) s0 Q0)
    (hout : ∀ o e0' s0', Q0 o e0' s0' → s0'.n ≤ N ∧ (∀ i, i < k → s0'.get i = s0.get i) ∧ (∀ j ∈ out, Sub (idR k) (e0'.get j) (e0'.get j)) ∧ Q o (eraseEnv out e0') s) : SK P G fid c e s Q := by
  refine sk_frame (fun _ _ => False) (k := k) (ρ := fun i => i) (s0 := s0) (fit_id hk hn hw hG hget hself) N (fun _ _ _ _ _ h => h.elim) (esub_erase (R := fun j _ i => i < k ∧ i = j) (live := live) fun j hj => (hlive j hj).mono (by rintro i sp j ⟨h, rfl⟩; exact ⟨h, rfl⟩)) h0 fun _ o e0' s0' hq hw' hg' => ?_
  obtain ⟨h1, h2, h3, h4⟩ := hout o e0' s0' hq
  exact ⟨h1, _, _, s, h4, esub_erase fun j hj => (h3 j hj).mono (by rintro i sp j ⟨h, rfl⟩; exact .inl (if_pos h)), back_id hn hsw hget hself h2, fun i hi => .inr fun _ => rfl⟩
end
end Go.Ai
