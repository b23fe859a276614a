/- The interpreter: what holds of it. -/
import Derived.Test.YtgplkbfjlidinabGreatDoorAiLay
import Derived.Test.YtgplkbfjlidinabGreatDoorKit
set_option linter.unusedVariables false
set_option linter.unusedSimpArgs false
set_option linter.unnecessarySimpa false
/-
  Runs that come to one answer, without counting levels: the rules of AiEv, for equations.
-/
namespace Go.Ai
section
variable {C : Cfg}
def RunF (C : Cfg) (f : FuncId) (args : List Value) (s : St) (Q : Value → St → Prop) : Prop := ∃ n v s', run C n (.call f args) s = .ret (.val v, s') ∧ Q v s'
def RunC (C : Cfg) (fid : FuncId) (c : Code) (e : Env) (s : St) (Q : Out → Env → St → Prop) : Prop := ∃ n o e' s', execC C (run C n) fid c e s = .ret (o, e', s') ∧ Q o e' s'
theorem RunF.ev {f : FuncId} {args : List Value} {s : St} {Q : Value → St → Prop} (h : RunF C f args s Q) : EvF C f args s Q := by
 obtain ⟨n, v, s', h1, h2⟩ := h;exact ⟨n, by rw [h1]; exact ⟨v, rfl, h2⟩⟩
theorem RunC.ev {fid : FuncId} {c : Code} {e : Env} {s : St} {Q : Out → Env → St → Prop} (h : RunC C fid c e s Q) : EvC C fid c e s Q := by
 obtain ⟨n, o, e', s', h1, h2⟩ := h;exact ⟨n, by rw [h1]; exact h2⟩
theorem RunF.up {f : FuncId} {args : List Value} {s : St} {Q Q' : Value → St → Prop} (h : RunF C f args s Q) (hq : ∀ v s', Q v s' → Q' v s') : RunF C f args s Q' := by
 obtain ⟨n, v, s', h1, h2⟩ := h;exact ⟨n, v, s', h1, hq _ _ h2⟩
theorem ret_le {α : Type} {m m' : M α} {a : α} (h : MLe m m') (hm : m = .ret a) : m' = .ret a := by
 subst hm;exact h.ret_eq
variable {fid : FuncId} {e : Env} {s : St} {Q : Out → Env → St → Prop}
end
end Go.Ai
/-
  Regions with contracts: tests, drawn regions.
-/
namespace Go.Ai
section
variable {P : Program} {C : Cfg} {G : Nat} {rc : Rec} {e : Env} {s : St}
theorem one_any {o : Op} {v : Value} {s' : St} (ho : oneOp C (fun _ _ => .fail) e s o = .ofOption (Z2m C e.eval s o)) (hv : Z2m C e.eval s o = some (v, s')) : oneOp C rc e s o = .ret (v, s') := by
 have h : oneOp C (fun _ _ => .fail) e s o = .ret (v, s') := by rw [ho, hv]; rfl
 exact ret_le (oneOp_mono (C := C) (rc := fun _ _ => .fail) (rc' := rc) (fun _ _ => .fail _) e s o) h
theorem al_opF {ops : Array Oper} {o : Oper} {l : List Oper} {s1 : St} {v : Value} {R : Env → St → Prop} (hw : Region.wanted o (Z2p ops e) = true) (ho : oneOp C (fun _ _ => .fail) e s o.op = .ofOption (Z2m C e.eval s o.op))
  (hv : Z2m C e.eval s o.op = some (v, s1)) (h : AllL C rc ops l (e.dst o.dst v) s1 R) : AllL C rc ops (o :: l) e s R := by
 refine ⟨?_⟩;unfold execOps;rw [if_pos hw, one_any ho hv];exact h.all
theorem al_test {ops : Array Oper} {o : Oper} {l : List Oper} {R : Env → St → Prop} (hw : Region.wanted o (Z2p ops e) = true) (ho : oneOp C (fun _ _ => .fail) e s o.op = .ofOption (Z2m C e.eval s o.op))
  (hv : Z2m C e.eval s o.op = some (.bool (asB (getV (Z2m C e.eval s o.op))), s)) (ht : asB (getV (Z2m C e.eval s o.op)) = true → AllL C rc ops l (e.dst o.dst (.bool true)) s R)
  (hf : asB (getV (Z2m C e.eval s o.op)) = false → AllL C rc ops l (e.dst o.dst (.bool false)) s R) : AllL C rc ops (o :: l) e s R := by
 cases hb : asB (getV (Z2m C e.eval s o.op)) with
 | true => rw [hb] at hv; exact al_opF hw ho hv (ht hb)
 | false => rw [hb] at hv; exact al_opF hw ho hv (hf hb)
theorem al_map (X : Option Value) (v : Value) {ops : Array Oper} {o : Oper} {l : List Oper} {R : Env → St → Prop} (hw : Region.wanted o (Z2p ops e) = true) (ho : oneOp C (fun _ _ => .fail) e s o.op = .ofOption (Z2m C e.eval s o.op))
  (hv : Z2m C e.eval s o.op = X.map fun v => (v, s)) (hs : X = some v) (h : AllL C rc ops l (e.dst o.dst v) s R) : AllL C rc ops (o :: l) e s R :=
 al_opF hw ho (hv.trans (by rw [hs]; rfl)) h
structure AllD (C : Cfg) (rc : Rec) (ops : Array Oper) (i : Nat) (l : List Oper) (L : Log) (e : Env) (s : St) (R : Env → St → Prop) : Prop where
 all : (execDraw C rc ops (Region.before ops) i l L e s).All fun x => R x.1 x.2
theorem sk_drawL (H : CfgOk P C (okK G)) (S : Sound P G rc) {fid id : Nat} {ops : Array Oper} {Q : Out → Env → St → Prop} (h : AllD C rc ops 0 ops.toList ⟨[], []⟩ e s (Q .normal)) : SK P G fid (.region id ops true) e s Q := by
 refine sk_exec H S ?_;unfold execC;simp only [cond_true];rw [M.all_bind];exact h.all
theorem ald_nil {ops : Array Oper} {i : Nat} {L : Log} {R : Env → St → Prop} (h : R e s) : AllD C rc ops i [] L e s R := ⟨h⟩
theorem ald_chunk (k : Nat) {ops : Array Oper} {i : Nat} {l : List Oper} {L : Log} {R : Env → St → Prop} (h : (drawRun C rc ops i (l.take k) L e s).isSome = true)
  (hR : AllD C rc ops (i + (l.take k).length) (l.drop k) (drL (drawRun C rc ops i (l.take k) L e s)) (drE (drawRun C rc ops i (l.take k) L e s)) (drS (drawRun C rc ops i (l.take k) L e s)) R) : AllD C rc ops i l L e s R := by
 have h2 := drawRun_eq (C := C) (l.take k) (l.drop k) i L e s _ (dr_some h);rw [List.take_append_drop] at h2;refine ⟨?_⟩;rw [h2];exact hR.all
theorem ald_op (L' : Log) {ops : Array Oper} {i : Nat} {o : Oper} {l : List Oper} {L : Log} {R : Env → St → Prop} {v : Value} {s' : St} (hw : Region.wanted o (Z2p ops e) = true) (hv : Z2m C e.eval s o.op = some (v, s'))
  (ho : oneOp C (fun _ _ => .fail) e s o.op = .ofOption (Z2m C e.eval s o.op)) (hl : drawLog C ops i o L e s v s' = some L') (h : AllD C rc ops (i + 1) l L' (e.dst o.dst v) s' R) : AllD C rc ops i (o :: l) L e s R := by
 refine ⟨?_⟩;rw [draw_one hw (one_any ho hv) hl];exact h.all
theorem ald_mapL (X : Option Value) (v : Value) {ops : Array Oper} {i : Nat} {o : Oper} {l : List Oper} {L : Log} {R : Env → St → Prop} (hw : Region.wanted o (Z2p ops e) = true) (ho : oneOp C (fun _ _ => .fail) e s o.op = .ofOption (Z2m C e.eval s o.op))
  (hv : Z2m C e.eval s o.op = X.map fun v => (v, s)) (hs : X = some v) (hl : (drawLog C ops i o L e s v s).isSome = true) (h : AllD C rc ops (i + 1) l ((drawLog C ops i o L e s v s).getD ⟨[], []⟩) (e.dst o.dst v) s R) : AllD C rc ops i (o :: l) L e s R :=
 ald_op _ hw (hv.trans (by rw [hs]; rfl)) ho (by cases hx : drawLog C ops i o L e s v s with
  | none => rw [hx] at hl; cases hl
  | some y => rfl) h
theorem ald_readK {ops : Array Oper} {i : Nat} {o : Oper} {l : List Oper} {L : Log} {R : Env → St → Prop} {d : Nat × St × St} (hw : Region.wanted o (Z2p ops e) = true) (hv : (Z2m C e.eval s o.op).isSome = true)
  (ho : oneOp C (fun _ _ => .fail) e s o.op = .ofOption (Z2m C e.eval s o.op)) (hc : Nat.beq (Z2l C o.op) 2 = true)
  (hE : ∀ j, j < L.effects.length → ((Region.before ops).getD i 0).testBit (L.effects.getD j d).1 = true ∨ ∃ s'', Z2m C e.eval (L.effects.getD j d).2.1 o.op = some (getV (Z2m C e.eval s o.op), s''))
  (h : AllD C rc ops (i + 1) l { L with reads := (i, o.op, e, getV (Z2m C e.eval s o.op)) :: L.reads } (e.dst o.dst (getV (Z2m C e.eval s o.op))) (getS (Z2m C e.eval s o.op)) R) : AllD C rc ops i (o :: l) L e s R := by
 refine ald_op _ hw (op_some hv) ho ?_ h;have hc := Nat.eq_of_beq_eq_true hc;unfold drawLog;rw [hc];simp only;rw [if_pos];rw [List.all_eq_true];intro x hx;obtain ⟨j, hj, rfl⟩ := List.getElem_of_mem hx;have := hE j hj;rw [List.getD_eq_getElem?_getD, List.getElem?_eq_getElem hj, Option.getD_some] at this;rcases this with h | ⟨s'', h⟩
 ·rw [h, Bool.true_or]
 ·rw [sameAgain_of h, Bool.or_true]
theorem one_callR {o : Op} {c : Call} {f : FuncId} {args : List Value} {v : Value} {s' : St} (hop : o = .call c) (hb : ∀ b, c.callee ≠ .builtin b) (ht : target C s e.eval c = some (.call f args)) (hx : extV C (.call f args) = none)
  (h : rc (.call f args) s = .ret (.val v, s')) : oneOp C rc e s o = .ret (v, s') := by
 subst hop;unfold oneOp;split
 ·rename_i h1; cases h1
 ·rename_i h1;cases h1;exact absurd rfl (hb _)
 ·rename_i h1;cases h1;rw [ht];dsimp only;unfold callT;rw [hx];dsimp only;rw [h];rfl
 ·rename_i h1; cases h1
 ·rename_i h1 _;exact absurd rfl (h1 _)
def logOf (x : Option Log) : Log := x.getD ⟨[], []⟩
theorem log_some {x : Option Log} (h : x.isSome = true) : x = some (logOf x) := by
 cases x with
 | none => cases h
 | some y => rfl
theorem ald_test {ops : Array Oper} {i : Nat} {o : Oper} {l : List Oper} {L : Log} {R : Env → St → Prop} (hw : Region.wanted o (Z2p ops e) = true) (hv : Z2m C e.eval s o.op = some (.bool (asB (getV (Z2m C e.eval s o.op))), s))
  (ho : oneOp C (fun _ _ => .fail) e s o.op = .ofOption (Z2m C e.eval s o.op)) (hl : ∀ b, (drawLog C ops i o L e s (.bool b) s).isSome = true) (ht : asB (getV (Z2m C e.eval s o.op)) = true → AllD C rc ops (i + 1) l (logOf (drawLog C ops i o L e s (.bool true) s)) (e.dst o.dst (.bool true)) s R)
  (hf : asB (getV (Z2m C e.eval s o.op)) = false → AllD C rc ops (i + 1) l (logOf (drawLog C ops i o L e s (.bool false) s)) (e.dst o.dst (.bool false)) s R) : AllD C rc ops i (o :: l) L e s R := by
 cases hb : asB (getV (Z2m C e.eval s o.op)) with
 | true => rw [hb] at hv; exact ald_op _ hw hv ho (log_some (hl true)) (ht hb)
 | false => rw [hb] at hv; exact ald_op _ hw hv ho (log_some (hl false)) (hf hb)
theorem al_callH (f : FuncId) (args : List Value) (v : Value) (s' : St) {ops : Array Oper} {o : Oper} {l : List Oper} {c : Call} {R : Env → St → Prop} (hop : o.op = .call c) (hb : ∀ b, c.callee ≠ .builtin b)
  (hw : Region.wanted o (Z2p ops e) = true) (ht : target C s e.eval c = some (.call f args)) (hc : rc (.call f args) s = .ret (.val v, s'))
  (h : AllL C rc ops l (e.dst o.dst v) s' R) (hx0 : extV C (.call f args) = none := by kernel_rfl) : AllL C rc ops (o :: l) e s R := by
 refine ⟨?_⟩;unfold execOps;rw [if_pos hw, one_callR hop hb ht hx0 hc];exact h.all
theorem ald_callH (f : FuncId) (args : List Value) (v : Value) (s' : St) {ops : Array Oper} {i : Nat} {o : Oper} {l : List Oper} {L : Log} {c : Call} {R : Env → St → Prop} (hop : o.op = .call c) (hb : ∀ b, c.callee ≠ .builtin b)
  (hw : Region.wanted o (Z2p ops e) = true) (ht : target C s e.eval c = some (.call f args)) (hc : rc (.call f args) s = .ret (.val v, s')) (hl : (drawLog C ops i o L e s v s').isSome = true)
  (h : AllD C rc ops (i + 1) l (logOf (drawLog C ops i o L e s v s')) (e.dst o.dst v) s' R) (hx0 : extV C (.call f args) = none := by kernel_rfl) : AllD C rc ops i (o :: l) L e s R := by
 refine ⟨?_⟩;rw [draw_one hw (one_callR hop hb ht hx0 hc) (log_some hl)];exact h.all
theorem al_callB (f : FuncId) (args : List Value) (b : Bool) (s' : St) {ops : Array Oper} {o : Oper} {l : List Oper} {c : Call} {R : Env → St → Prop} (hop : o.op = .call c) (hb : ∀ b, c.callee ≠ .builtin b)
  (hw : Region.wanted o (Z2p ops e) = true) (ht : target C s e.eval c = some (.call f args)) (hc : rc (.call f args) s = .ret (.val (.bool b), s'))
  (h1 : b = true → AllL C rc ops l (e.dst o.dst (.bool true)) s' R) (h2 : b = false → AllL C rc ops l (e.dst o.dst (.bool false)) s' R) (hx0 : extV C (.call f args) = none := by kernel_rfl) : AllL C rc ops (o :: l) e s R := by
 cases b with
 | true => exact al_callH f args (.bool true) s' hop hb hw ht hc (h1 rfl) hx0
 | false => exact al_callH f args (.bool false) s' hop hb hw ht hc (h2 rfl) hx0
theorem ald_callB (f : FuncId) (args : List Value) (b : Bool) (s' : St) {ops : Array Oper} {i : Nat} {o : Oper} {l : List Oper} {L : Log} {c : Call} {R : Env → St → Prop} (hop : o.op = .call c) (hb : ∀ b, c.callee ≠ .builtin b)
  (hw : Region.wanted o (Z2p ops e) = true) (ht : target C s e.eval c = some (.call f args)) (hc : rc (.call f args) s = .ret (.val (.bool b), s')) (hl : ∀ b, (drawLog C ops i o L e s (.bool b) s').isSome = true)
  (h1 : b = true → AllD C rc ops (i + 1) l (logOf (drawLog C ops i o L e s (.bool true) s')) (e.dst o.dst (.bool true)) s' R)
  (h2 : b = false → AllD C rc ops (i + 1) l (logOf (drawLog C ops i o L e s (.bool false) s')) (e.dst o.dst (.bool false)) s' R) (hx0 : extV C (.call f args) = none := by kernel_rfl) : AllD C rc ops i (o :: l) L e s R := by
 cases b with
 | true => exact ald_callH f args (.bool true) s' hop hb hw ht hc (hl true) (h1 rfl) hx0
 | false => exact ald_callH f args (.bool false) s' hop hb hw ht hc (hl false) (h2 rfl) hx0
end
end Go.Ai
/-
  Rules for use with tokens: frames told slot by slot, loops, rows that stand for nil, what is handed back frozen, contracts in bundles.
-/
namespace Go.Ai
def lk : List (Nat × Value) → Nat → Option Value
 | [], _ => none
 | x :: l, j => bif Nat.beq j x.1 then some x.2 else lk l j
def envOf (n : Nat) (m : T Value) : List (Nat × Value) → Env
 | [] => ⟨n, m⟩
 | x :: l => (envOf n m l).put x.1 x.2
theorem envOf_n {n : Nat} {m : T Value} : ∀ {lv : List (Nat × Value)}, (envOf n m lv).n = n
 | [] => rfl
 | _ :: l => envOf_n (lv := l)
theorem envOf_get {n : Nat} {m : T Value} {j : Nat} (hj : j < n) : ∀ {lv : List (Nat × Value)}, (envOf n m lv).get j = match lk lv j with | some v => v | none => (⟨n, m⟩ : Env).get j
  | [] => rfl
  | x :: l => by
    unfold envOf lk;rw [Env.get_put, envOf_n];cases hb : Nat.beq j x.1 with
    | true =>
      have h := Nat.eq_of_beq_eq_true hb;rw [if_pos ⟨h, h ▸ hj⟩]; rfl
    | false =>
      rw [if_neg (fun h => by rw [h.1, Nat.beq_refl] at hb; cases hb)];exact envOf_get hj (lv := l)
def LiveAll : List (Nat × Value) → Env → Prop
 | [], _ => True
 | x :: l, e => e.get x.1 = x.2 ∧ LiveAll l e
def LiveSub (k : Nat) : List (Nat × Value) → Prop
 | [] => True
 | x :: l => Sub (idR k) x.2 x.2 ∧ LiveSub k l
theorem LiveAll.at_ {e : Env} : ∀ {l : List (Nat × Value)}, LiveAll l e → ∀ {j : Nat} {v : Value}, lk l j = some v → e.get j = v
  | [], _, _, _, h => Z02
  | x :: l, ⟨h1, h2⟩, j, v, h => by
    unfold lk at h;cases hb : Nat.beq j x.1 with
    | true =>
      rw [hb] at h;obtain rfl := Nat.eq_of_beq_eq_true hb;simp only [cond_true, Option.some.injEq] at h;rw [h1, h]
    | false =>
      rw [hb] at h;exact LiveAll.at_ h2 h
theorem LiveSub.at_ {k : Nat} : ∀ {l : List (Nat × Value)}, LiveSub k l → ∀ {j : Nat} {v : Value}, lk l j = some v → Sub (idR k) v v
  | [], _, _, _, h => Z02
  | x :: l, ⟨h1, h2⟩, j, v, h => by
    unfold lk at h;cases hb : Nat.beq j x.1 with
    | true =>
      rw [hb] at h;simp only [cond_true, Option.some.injEq] at h;rw [← h]; exact h1
    | false =>
      rw [hb] at h;exact LiveSub.at_ h2 h
def deadOf (e : Env) : T Value := T.ofList ((List.range e.n).map fun j => erase (e.get j))
theorem deadOf_get {e : Env} {j : Nat} (h : j < e.n) : (⟨e.n, deadOf e⟩ : Env).get j = erase (e.get j) := by
 have hb : Nat.blt j e.n = true := by simp [Nat.blt]; omega
 simp only [deadOf, Env.get, hb, cond_true, T.get_ofList, List.getElem?_map, List.getElem?_range h, Option.map_some, Option.getD_some]
theorem live_sub {k n : Nat} {lv : List (Nat × Value)} {e : Env} (hn : e.n = n) (hl : LiveAll lv e) (hs : LiveSub k lv) : ESub (idR k) e (envOf n (deadOf e) lv) := by
  subst hn;refine ⟨envOf_n, fun j hj => ?_⟩;rw [envOf_get hj];cases hv : lk lv j with
  | none =>
    simp only;rw [deadOf_get hj];exact sub_erase _
  | some v =>
    rw [hl.at_ hv];exact hs.at_ hv
theorem er_same {β : Bij} {e e2 : Env} {t : Array Value} (hn : e2.n = e.n) (hg : ∀ j, j < e.n → e2.get j = e.get j) (h : ER β e t) : ER β e2 t :=
 ⟨h.size.trans hn.symm, fun j hj => by rw [hg j (hn ▸ hj)]; exact h.at_ j (hn ▸ hj)⟩
structure Shut0 (k : Nat) (s : St) : Prop where
 n : s.n = k
 wf : s.WF
 self : ∀ i, i < k → ORel (idR k) (s.get i) (s.get i)
structure Shape (n k N : Nat) (lv : List (Nat × Value)) (M : St) (e : Env) (s : St) : Prop where
 en : e.n = n
 live : LiveAll lv e
 lsub : LiveSub k lv
 big : s.n ≤ N
 shut : Shut0 k M
 mem : ∀ i, i < k → s.get i = M.get i
section
variable {P : Program} {G : Nat} {fid : FuncId} {c : Code} {e : Env} {s : St} {Q : Out → Env → St → Prop}
theorem sk_same (e2 : Env) (hn : e2.n = e.n) (hg : ∀ j, j < e.n → e2.get j = e.get j) (h : SK P G fid c e2 s Q) : SK P G fid c e s Q :=
 fun hw β own w b t ds n0 h1 h2 h3 h4 h5 h6 h7 h8 h9 => h hw β own w b t ds n0 h1 h2 h3 (er_same hn hg h4) h5 h6 h7 h8 h9
theorem sk_live (n : Nat) (lv : List (Nat × Value)) (hn : e.n = n) (hl : LiveAll lv e) (h : ∀ m, SK P G fid c (envOf n m lv) s Q) : SK P G fid c e s Q := by
 subst hn;refine sk_same (envOf e.n e.m lv) envOf_n (fun j hj => ?_) (h e.m);rw [envOf_get hj];cases hv : lk lv j with
 | none => rfl
 | some v => exact (hl.at_ hv).symm
theorem back_to {k : Nat} {s s0' M : St} (hs : Shut0 k s) (hM : Shut0 k M) (hmem : ∀ i, i < k → s0'.get i = M.get i) : Back k (fun i => i) (fun _ _ => False) s s s0' (fun i => if i < k then some i else none) M where
  old i hi := .inl (if_pos hi)
  cons i i' hi _ _ h := by rw [if_pos hi] at h; cases h
  new i j hi h := by rw [if_neg Z4] at h; cases h
  inj i i' j h h' := by
    split at h
    · split at h'
      · rw [Option.some.inj h, Option.some.inj h']
      · cases h'
    · cases h
  obj i j h := by
    split at h
    · rename_i hi
      obtain rfl := Option.some.inj h;rw [hmem i hi];have := hM.self i hi;cases hg : M.get i with
      | none => trivial
      | some o =>
        rw [hg] at this;have hR : ∀ i sp j, idR k i sp j → Ways k (fun i => i) (fun i => if i < k then some i else none) (fun _ _ => False) i sp j := Z1u
        have ents : ∀ {a b : List MapEntry}, EntsS (idR k) a b → EntsS (Ways k (fun i => i) (fun i => if i < k then some i else none) (fun _ _ => False)) a b := by
          intro a b h;induction h with
          | nil => exact .nil
          | cons h _ ih => exact .cons (h.mono hR) ih
        have this : OSub (idR k) o o := this;show OSub _ o o;cases this with
        | cells h => exact .cells (h.mono hR)
        | arr h => exact .arr (h.mono hR)
        | map h => exact .map (ents h)
        | iterNil => exact .iterNil
        | iter h => exact .iter (hR _ _ _ h)
        | siter => exact .siter
    · cases h
  rest j hj h := absurd rfl (h j (hs.n ▸ hj))
  n := by rw [hs.n, hM.n]; exact Nat.le_refl _
  wf := hM.wf
  grow := by
    refine ⟨by rw [hs.n, hM.n]; exact Nat.le_refl _, fun l hl => ?_⟩;by_cases h : l < k
    · have := hs.self l h
      cases hg : s.get l with
      | none => rw [hg] at hl; cases hl
      | some o =>
        rw [hg] at this hl;have this : OSub (idR k) o o := this;cases this <;> cases hl
    · rw [hs.wf l (by rw [hs.n]; omega)] at hl; cases hl
theorem sk_clean {n k N : Nat} {lv : List (Nat × Value)} {m : T Value} {Q0 : Out → Env → St → Prop} (hs : Shut0 k s) (hG : gl G ≤ k) (hlv : LiveSub k lv) (h0 : ∀ m, SK P G fid c (envOf n m lv) s Q0)
  (hlive : LiveAll lv (envOf n m lv)) (hout : ∀ o e1 s1, Q0 o e1 s1 → ∃ lv1 M1, Shape n k N lv1 M1 e1 s1 ∧ ∀ m1, Q o (envOf n m1 lv1) M1) : SK P G fid c (envOf n m lv) s Q := by
 have hR : ∀ i sp j, idR k i sp j → j < k ∧ j = i := Z0z
 have he := live_sub (k := k) (n := n) (e := envOf n m lv) envOf_n hlive hlv;refine sk_frame (fun _ _ => False) (k := k) (ρ := fun i => i) (s0 := s) (fit_id hs.n (by rw [hs.n]; exact Nat.le_refl _) hs.wf hG (fun _ _ => rfl) hs.self) N (fun _ _ _ _ _ h => h.elim) ⟨he.n, fun j hj => (he.at_ j hj).mono hR⟩ (h0 _) fun _ o e1 s1 hq _ _ => ?_
 obtain ⟨lv1, M1, S, hq1⟩ := hout o e1 s1 hq;have he1 := live_sub (k := k) S.en S.live S.lsub;refine ⟨S.big, _, _, M1, hq1 (deadOf e1), ⟨he1.n, fun j hj => (he1.at_ j hj).mono ?_⟩, back_to hs S.shut S.mem, fun i hi => .inr fun h => (S.mem i hi).symm.trans h⟩;rintro i sp j ⟨h, rfl⟩;exact .inl (if_pos h)
theorem sk_while {σ : Type} {n k N : Nat} {live : σ → List (Nat × Value)} {M : σ → St} (Inv : σ → Prop) (μ : σ → Nat) (X : σ → Out → List (Nat × Value) → St → Prop) (hG : gl G ≤ k) (hM : ∀ a, Inv a → Shut0 k (M a)) (hlv : ∀ a, Inv a → LiveSub k (live a)) (hlive : ∀ a m, Inv a → LiveAll (live a) (envOf n m (live a)))
    (hbody : ∀ a m, Inv a → SK P G fid c (envOf n m (live a)) (M a) fun o e1 s1 => (∃ b, o = .normal ∧ Inv b ∧ μ b < μ a ∧ Shape n k N (live b) (M b) e1 s1) ∨ (∃ lv1 M1, o ≠ .normal ∧ X a o lv1 M1 ∧ Shape n k N lv1 M1 e1 s1)) :
    ∀ (a : σ) (m : T Value), Inv a → SK P G fid (.loop c) (envOf n m (live a)) (M a) fun o e1 s1 => ∃ b lv1 M1 m1, Inv b ∧ X b o lv1 M1 ∧ e1 = envOf n m1 lv1 ∧ s1 = M1 := by
  have key : ∀ (r : Nat) (a : σ) (m : T Value), μ a < r → Inv a → SK P G fid (.loop c) (envOf n m (live a)) (M a) fun o e1 s1 => ∃ b lv1 M1 m1, Inv b ∧ X b o lv1 M1 ∧ e1 = envOf n m1 lv1 ∧ s1 = M1 := by
    intro r;induction r with
    | zero => intro a m h; omega
    | succ r ih =>
      intro a m hr ha;refine sk_loop (sk_clean (N := N) (hM a ha) hG (hlv a ha) (fun m => hbody a m ha) (hlive a m ha) ?_);rintro o e1 s1 (⟨b, rfl, hb, hlt, S⟩ | ⟨lv1, M1, ho, hx, S⟩)
      · exact ⟨_, _, S, fun m1 => ih b m1 Z4 hb⟩
      · refine ⟨_, _, S, fun m1 => ?_⟩
        have : ∃ b lv1' M1' m1', Inv b ∧ X b o lv1' M1' ∧ envOf n m1 lv1 = envOf n m1' lv1' ∧ M1 = M1' := ⟨a, lv1, M1, m1, ha, hx, rfl, rfl⟩;cases o with
        | normal => exact absurd rfl ho
        | exit id => exact this
        | ret => exact this
  exact fun a m ha => key _ a m (Nat.lt_succ_self _) ha
end
end Go.Ai
/-
  What operations come to at tokens and at rows of elements.
-/
namespace Go.Ai
def flatL {α : Type} (f : α → List Value) (l : List α) : List Value := (l.map f).flatten
noncomputable def inlL {α : Type} (f : α → List Value) (sz : Nat) (l : List α) : Value := inl l.length sz (flatL f l)
noncomputable def elt (cs : List Value) (o : Nat) : Value := .chan (some (code (.ptr (cs.drop o))))
def rowL {α : Type} (f : α → List Value) (l : List α) : AObj := .arr (flatL f l) 0 false
def slL (id sz n : Nat) : Value := .slice (some ⟨id, 0, some (n * sz)⟩) n sz
section
variable {α : Type} {f : α → List Value} {l : List α} {sz : Nat} {C : Cfg} {s : St}
theorem flatL_len (hf : ∀ x, (f x).length = sz) : (flatL f l).length = l.length * sz := by
 rw [flatL, flatten_even (sz := sz) (by intro x hx; obtain ⟨y, _, rfl⟩ := List.mem_map.1 hx; exact hf y), List.length_map]
theorem flatL_append (l2 : List α) : flatL f (l ++ l2) = flatL f l ++ flatL f l2 := by simp [flatL]
theorem flatL_at (hf : ∀ x, (f x).length = sz) {i : Nat} {x : α} (hi : l[i]? = some x) : ((flatL f l).drop (i * sz)).take sz = f x := by
  induction l generalizing i with
  | nil => simp at hi
  | cons y l ih =>
    unfold flatL;rw [List.map_cons, List.flatten_cons];cases i with
    | zero =>
      simp only [List.getElem?_cons_zero, Option.some.injEq] at hi;subst hi;rw [Nat.zero_mul, List.drop_zero, ← hf y, List.take_left]
    | succ i =>
      rw [Nat.succ_mul, Nat.add_comm, ← List.drop_drop, ← hf y, List.drop_left, hf y];exact ih Z1z
theorem flatL_sub (hf : ∀ x, (f x).length = sz) {i o w : Nat} {x : α} (hi : l[i]? = some x) (hw : o + w ≤ sz) : ((flatL f l).drop (i * sz + o)).take w = ((f x).drop o).take w := by
 rw [← List.drop_drop, ← flatL_at hf hi, List.drop_take, List.take_take, Nat.min_eq_left Z4]
theorem Z2o (hf : ∀ x, clo.cloL (f x) = true) : clo.cloL (flatL f l) = true := by
 refine clo_all.2 fun v hv => ?_
 obtain ⟨c, hc, hv⟩ := List.mem_flatten.1 hv;obtain ⟨x, _, rfl⟩ := List.mem_map.1 hc;exact clo_all.1 (hf x) v hv
theorem flatL_one (hf : ∀ x, (f x).all one = true) : (flatL f l).all one = true := by
 refine List.all_eq_true.2 fun v hv => ?_
 obtain ⟨c, hc, hv⟩ := List.mem_flatten.1 hv;obtain ⟨x, _, rfl⟩ := List.mem_map.1 hc;exact List.all_eq_true.1 (hf x) v hv
theorem flat_inj {a b : List (List Value)} (hn : a.length = b.length) (ha : ∀ x ∈ a, x.length = sz) (hb : ∀ x ∈ b, x.length = sz) (h : a.flatten = b.flatten) : a = b := by
  induction a generalizing b with
  | nil => cases b with
    | nil => rfl
    | cons => simp at hn
  | cons x a ih =>
    cases b with
    | nil => simp at hn
    | cons y b =>
      rw [List.flatten_cons, List.flatten_cons] at h;have := List.append_inj h (by rw [ha x (List.mem_cons_self ..), hb y (List.mem_cons_self ..)]);rw [this.1, ih (by simpa using hn) (fun z hz => ha z (List.mem_cons_of_mem _ hz)) (fun z hz => hb z (List.mem_cons_of_mem _ hz)) this.2]
theorem inl_inj {n n' z z' : Nat} {cs cs' : List Value} (h : inl n z cs = inl n' z' cs') : n = n' ∧ z = z' ∧ cs = cs' := by
 have h1 : code (.slice n z cs []) = code (.slice n' z' cs' []) := by
  simp only [inl, Value.chan.injEq, Option.some.injEq] at h;exact h
 have := code_inj h1;simp only [Inl.slice.injEq] at this;exact ⟨this.1, this.2.1, this.2.2.1⟩
theorem inlL_inj (hf : ∀ x, (f x).length = sz) (hi : ∀ x y, f x = f y → x = y) {l l' : List α} (h : inlL f sz l = inlL f sz l') : l = l' := by
 obtain ⟨h1, _, h2⟩ := inl_inj h;refine map_inj hi (flat_inj (sz := sz) Z1e ?_ ?_ h2)
 ·intro x hx; obtain ⟨y, _, rfl⟩ := List.mem_map.1 hx; exact hf y
 ·intro x hx; obtain ⟨y, _, rfl⟩ := List.mem_map.1 hx; exact hf y
structure TokC (C : Cfg) : Prop where
 dec : C.dec = Ai.dec
 cod : C.cod = code
def slcTy (C : Cfg) (t : TypeId) : Bool :=
 match C.ty t with
 | some { desc := .slice _, .. } => true
 | _ => false
theorem len_inl (H : TokC C) {t : TypeId} (ht : slcTy C t = true) {n z : Nat} {cs : List Value} : lenB C s t (inl n z cs) = some (.int .i64 n) := by
 unfold slcTy at ht;split at ht
 ·rename_i hty;unfold lenB inl;rw [hty];simp only [H.dec, dec_code];rfl
 ·cases ht
theorem idx_inl (H : TokC C) {t : TypeId} (ht : slTy C t sz = true) {n i : Nat} {k : IntKind} {cs : List Value} (hi : i < n) : indexAddrV C t (inl n sz cs) (.int k i) = some (elt cs (i * sz)) := by
 unfold slTy at ht;split at ht
 ·rename_i elem _ _ _ _ _ hty;split at ht
  ·rename_i et het;have := Nat.eq_of_beq_eq_true ht;unfold indexAddrV inl;rw [hty];simp only [H.dec, dec_code, het, H.cod];rw [if_pos ⟨this, Z4, Z4⟩];rfl
  ·cases ht
 ·cases ht
theorem idx_inlL (H : TokC C) {t : TypeId} (ht : slTy C t sz = true) {i : Nat} {k : IntKind} (hi : i < l.length) : indexAddrV C t (inlL f sz l) (.int k i) = some (elt (flatL f l) (i * sz)) := idx_inl H ht hi
def aggTy (C : Cfg) (t : TypeId) (sz : Nat) : Bool :=
 match C.ty t with
 | some ty => TypeDesc.agg ty.desc && Nat.beq ty.size sz
 | none => false
def oneTy (C : Cfg) (t : TypeId) : Bool :=
 match C.ty t with
 | some ty => !TypeDesc.agg ty.desc
 | none => false
theorem load_elt (H : TokC C) {t : TypeId} {w : Nat} (ht : aggTy C t w = true) {cs : List Value} {o : Nat} (hw : o + w ≤ cs.length) : loadV C s t (elt cs o) = some (.agg ((cs.drop o).take w).toArray) := by
 unfold aggTy at ht;split at ht
 ·rename_i ty hty;rw [Bool.and_eq_true] at ht;have e := Nat.eq_of_beq_eq_true ht.2;unfold loadV elt;rw [hty];simp only [H.dec, dec_code, ht.1, if_true, e];rw [if_pos (by rw [List.length_drop]; omega)]
 ·cases ht
theorem load_elt1 (H : TokC C) {t : TypeId} (ht : oneTy C t = true) {cs : List Value} {o : Nat} {v : Value} (hv : cs[o]? = some v) : loadV C s t (elt cs o) = some v := by
 unfold oneTy at ht;split at ht
 ·rename_i ty hty;have ht : TypeDesc.agg ty.desc = false := by simpa using ht
  unfold loadV elt;rw [hty];simp only [H.dec, dec_code, ht, Bool.false_eq_true, if_false];rw [List.head?_drop, hv]
 ·cases ht
theorem load_el (H : TokC C) {t : TypeId} (ht : aggTy C t sz = true) (hf : ∀ x, (f x).length = sz) {i : Nat} {x : α} (hi : l[i]? = some x) : loadV C s t (elt (flatL f l) (i * sz)) = some (.agg (f x).toArray) := by
 have hl := (List.getElem?_eq_some_iff.1 hi).1;rw [load_elt H ht (by rw [flatL_len hf]; have := Nat.mul_le_mul_right sz (show i + 1 ≤ l.length from hl); rw [Nat.succ_mul] at this; omega), flatL_at hf hi]
theorem load_el1 (H : TokC C) {t : TypeId} {o : Nat} (ht : oneTy C t = true) (hf : ∀ x, (f x).length = sz) {i : Nat} {x : α} {v : Value} (hi : l[i]? = some x) (hv : (f x)[o]? = some v) : loadV C s t (elt (flatL f l) (i * sz + o)) = some v := by
 refine load_elt1 H ht ?_;have ho : o < sz := Z10
 have := flatL_sub (w := 1) hf hi (by omega : o + 1 ≤ sz);have h2 : ((f x).drop o).head? = some v := by rw [List.head?_drop]; exact hv
 have h3 : ((flatL f l).drop (i * sz + o)).head? = ((f x).drop o).head? := by
  have e1 : ∀ (q : List Value), (q.take 1).head? = q.head? := by intro q; cases q <;> rfl
  rw [← e1, this, e1]
 rw [h2, List.head?_drop] at h3;exact h3
theorem fld_elt (H : TokC C) {t : TypeId} {i off : Nat} {cs : List Value} {o : Nat} (ht : (match C.ty t with | some { desc := .struct fs, .. } => (match fs[i]? with | some fd => Nat.beq fd.offset off && (match C.ty fd.type with | some ft => !(Nat.beq ft.size 0) | none => false) | none => false) | _ => false) = true) :
  fieldAddrV C t (elt cs o) i = some (elt cs (o + off)) := by
 split at ht
 ·rename_i fs _ _ _ _ _ hty;split at ht
  ·rename_i fd hfd;rw [Bool.and_eq_true] at ht;have h1 := Nat.eq_of_beq_eq_true ht.1;have h2 := ht.2;split at h2
   ·rename_i ft hft;have h3 : ft.size ≠ 0 := by
     intro h;rw [h] at h2;cases h2
    unfold fieldAddrV elt;rw [hty];simp only [H.dec, dec_code, hfd, hft, H.cod];rw [if_neg h3, List.drop_drop, h1]
   ·cases h2
  ·cases ht
 ·cases ht
theorem bound_at {n m d : Nat} {k : IntKind} (h : m ≤ n) : bound (some (.int k m)) d n = some m := by
 unfold bound;simp only;rw [if_pos ⟨Z4, Z4⟩];rfl
theorem bnd_hi {n m : Nat} {k : IntKind} (h : m ≤ n) : boundsV n none (some (.int k m)) none = some (0, m) := by
 unfold boundsV;simp only [show bound none n n = some n from rfl, bound_at h, show bound none 0 m = some 0 from rfl]
theorem bnd_lo {n m : Nat} {k : IntKind} (h : m ≤ n) : boundsV n (some (.int k m)) none none = some (m, n) := by
 unfold boundsV;simp only [show bound none n n = some n from rfl, bound_at h]
theorem bnd_both {n a b : Nat} {k j : IntKind} (h : b ≤ n) (h1 : a ≤ b) : boundsV n (some (.int k a)) (some (.int j b)) none = some (a, b) := by
 unfold boundsV;simp only [show bound none n n = some n from rfl, bound_at h, bound_at h1]
theorem app_rowL (H : TokC C) {t : TypeId} {bytes : Nat} (ht : appTy C t sz bytes = true) (hf : ∀ x, (f x).length = sz) (ho : ∀ x, (f x).all one = true) {id : Nat} {y : Value} {l2 : List α} (hg : s.get id = some (rowL f l)) (hl : lenV C y = some l2.length) (hn : firstV C s sz l2.length y = some (flatL f l2))
  (hb : (l.length + l2.length) * bytes ≤ 140737488355328) : appendV C s t (slL id sz l.length) y = some (slL id sz (l ++ l2).length, s.set id (rowL f (l ++ l2))) := by
 have := append_more (C := C) (s := s) ht hg (flatL_len hf).symm (flatL_len hf).symm hl hn (flatL_one ho) hb (fun h => by rw [List.eq_nil_of_length_eq_zero h]; rfl);unfold slL rowL;rw [this, flatL_append, List.length_append, Nat.add_mul]
theorem idx_rowL {t : TypeId} (ht : slTy C t sz = true) {id n i : Nat} {k : IntKind} (hi : i < n) : indexAddrV C t (slL id sz n) (.int k i) = some (.pointer (some ⟨id, i * sz, some (n * sz)⟩)) := by
 unfold slTy at ht;split at ht
 ·rename_i elem _ _ _ _ _ hty;split at ht
  ·rename_i et het;have := Nat.eq_of_beq_eq_true ht;unfold indexAddrV slL;rw [hty];simp only [het];rw [if_pos ⟨this, Z4, Z4⟩];unfold Addr.plus;rw [Nat.zero_add];rfl
  ·cases ht
 ·cases ht
end
end Go.Ai
/-
  Rows that stand for nil; what is handed back frozen; contracts in bundles.
-/
namespace Go.Ai
section
variable {P : Program} {G : Nat} {fid : FuncId} {c : Code} {e : Env} {s : St} {Q : Out → Env → St → Prop}
def Bij.virt (β : Bij) (n : Nat) : Bij := { β with vir := fun i => i = n ∨ β.vir i }
theorem Bij.le_virt {β : Bij} {n : Nat} : β.le (β.virt n) := ⟨fun _ _ h => h, fun _ _ _ h => h, fun _ h => .inr h, fun _ _ _ h => h, fun _ _ h => h⟩
def AsRow (id : Nat) (v v2 : Value) : Prop := v2 = v ∨ (v = .slice none 0 0 ∧ ∃ sz, 0 < sz ∧ v2 = .slice (some ⟨id, 0, some 0⟩) 0 sz) ∨ (v = .slice none 0 0 ∧ ∃ sz, 0 < sz ∧ v2 = inl 0 sz [])
theorem AsRow.vr {β : Bij} {id : Nat} {v v2 x : Value} (h : AsRow id v v2) (hv : VR β v x) : VR (β.virt id) v2 x := by
 rcases h with rfl | ⟨rfl, sz, hz, rfl⟩ | ⟨rfl, sz, hz, rfl⟩
 ·exact hv.mono Bij.le_virt
 ·cases hv;exact .sliceVir (.inl rfl) hz (Nat.le_refl _)
 ·cases hv;refine .junk _ rfl fun i hi => ?_
  rw [dec_code] at hi;obtain rfl := Option.some.inj hi;exact .none hz
def AsRows (id : Nat) : List Value → List Value → Prop
 | [], [] => True
 | v :: l, v2 :: l2 => AsRow id v v2 ∧ AsRows id l l2
 | _, _ => False
theorem AsRows.vrs {β : Bij} {id : Nat} : ∀ {l l2 x : List Value}, AsRows id l l2 → VRs β l x → VRs (β.virt id) l2 x
 | [], [], _, _, .nil => .nil
 | _ :: _, _ :: _, _, ⟨h, t⟩, .cons h' t' => .cons (h.vr h') (t.vrs t')
 | [], _ :: _, _, h, _ => h.elim
 | _ :: _, [], _, h, _ => h.elim
def AsObj (id : Nat) : Option AObj → Option AObj → Prop
 | some (.cells a ta), some (.cells b tb) => ta = tb ∧ AsRows id a b
 | a, b => a = b
theorem sk_virt (e2 : Env) (s2 : St) (hn : e2.n = e.n) (he : ∀ j, j < e.n → AsRow s.n (e.get j) (e2.get j)) (hsn : s2.n = s.n + 1) (hs2 : s2.WF) (hrow : s2.get s.n = some (.arr [] 0 false)) (hs : ∀ j, j < s.n → AsObj s.n (s.get j) (s2.get j)) (hd : ∀ j, j < s.n → s2.get j = s.get j ∨ ∀ β t, ER β e t → β.dom j) (h : SK P G fid c e2 s2 Q) : SK P G fid c e s Q := by
  intro hw β own w b t ds n0 h1 h2 h3 h4 h5 h6 h7 h8 h9 k0 cs0;have hobj : ∀ i, β.dom i → i < s.n := h3;have hsr : SR (okK G) (β.virt s.n) own s2.get w := by
    refine ⟨fun i b hb => ?_, fun i hi L hL cs mv ro hc => ?_, h1.loc, h1.blk, h1.one, h1.small, fun i hi hv => ?_, ⟨fun b j v hv => ?_, fun b n hv => h1.ice.fx b n hv⟩⟩
    · obtain ⟨q1, q2, q3⟩ := h1.obj i b hb
      refine ⟨q1, q2, fun o ho => ?_⟩;have hlt := hobj i (.inl ⟨b, hb⟩);have ha := hs i hlt;cases hg : s.get i with
      | none =>
        rw [hg, ho] at ha;cases o <;> cases ha
      | some o1 =>
        have q4 := q3 o1 hg;rw [hg, ho] at ha;have same : o1 = o → ObjR (β.virt s.n) (okK G) o w.heap[b]? := fun e => e ▸ q4.mono Bij.le_virt
        cases o1 with
        | cells a =>
          cases o with
          | cells b2 =>
            obtain ⟨c, t, r1, r2, r3⟩ := q4;exact ⟨c, t, r1, AsRows.vrs ha.2 r2, ha.1 ▸ r3⟩
          | _ => cases ha
        | _ => cases ha; exact same rfl
    · have hlt := hobj i (.inr ⟨hi, L, hL⟩)
      have ha := hs i hlt;rw [hc] at ha;cases hg : s.get i with
      | none => rw [hg] at ha; cases ha
      | some o1 =>
        rw [hg] at ha;have : o1 = .arr cs mv ro := by cases o1 <;> cases ha <;> rfl
        subst this;obtain ⟨r1, r2⟩ := h1.arr i hi L hL cs mv ro hg;exact ⟨r1, fun hm => ⟨(r2 hm).1.mono Bij.le_virt, (r2 hm).2⟩⟩
    · rcases hv with rfl | hv
      · obtain ⟨b, hb⟩ := hi
        exact Nat.lt_irrefl _ (hobj _ (.inl ⟨b, hb⟩))
      · exact h1.vir i hi hv
    · obtain ⟨q1, q2, q3, q4, x, q5, q6⟩ := h1.ice.at_ b j v hv
      exact ⟨q1, q2, q3, q4, x, q5, VR.mono (β := β) (β' := β.virt s.n) Bij.le_virt q6⟩
  have hsh2 : Shut (β.virt s.n) s2 := by
    rintro i (⟨b, hb⟩ | ⟨hi, L, hL⟩ | hv)
    · have := hobj i (.inl ⟨b, hb⟩); omega
    · have := hobj i (.inr ⟨hi, L, hL⟩); omega
    · rcases hv with rfl | hv
      · omega
      · have := hobj i (.vir hv); omega
  have her : ER (β.virt s.n) e2 t := ⟨h4.size.trans hn.symm, fun j hj => (he j (hn ▸ hj)).vr (h4.at_ j (hn ▸ hj))⟩;obtain ⟨o, e', s', β', own', w', t', ds', q1, q2, q3, q4, q5, q6, q7, q8⟩ := h hs2 (β.virt s.n) own w b t ds n0 hsr ⟨h2.one, fun hg => ⟨(h2.tab hg).fx, (h2.tab hg).ic⟩, h2.err, h2.mx⟩ hsh2 her h5 h6 h7 h8 h9 k0 cs0;have hnn : s.n ≤ s'.n := by have := q4.nle; omega
  have hdom : ∀ i, (β.virt s.n).dom i → β.dom i ∨ i = s.n := by
    rintro i (⟨b, hb⟩ | ⟨hi, L, hL⟩ | hv)
    · exact .inl (.inl ⟨b, hb⟩)
    · exact .inl (.inr ⟨hi, L, hL⟩)
    · rcases hv with rfl | hv
      · exact .inr rfl
      · exact .inl (.vir hv)
  refine ⟨o, e', s', β', own', w', t', ds', q1, q2, ⟨hnn, fun l hl => ?_⟩, ⟨Bij.le_trans Bij.le_virt q4.le, fun i hi => ?_, hnn, fun i hi hdi => ?_, q4.size, q4.cframe, q4.os, q4.tape, q4.output, fun i hi => ?_, fun i hi => ?_, q4.drawn⟩, q5, q6, q7, q8⟩
  · by_cases hlt : l < s.n
    · refine q3.loop l ?_
      have ha := hs l hlt;cases hg : s.get l with
      | none => rw [hg] at hl; cases hl
      | some o1 =>
        rw [hg] at hl ha;cases o1 <;> first
          | cases hl; done
          | skip
        cases hg2 : s2.get l with
        | none => rw [hg2] at ha; cases ha
        | some o2 =>
          rw [hg2] at ha;cases o2 <;> cases ha
          exact hl
    · rw [hw l Z4] at hl; cases hl
  · rcases q4.new i hi with h | h
    · rcases hdom i h with h | rfl
      · exact .inl h
      · have := q4.nle; exact .inr ⟨Nat.le_refl _, Z4⟩
    · exact .inr ⟨Z4, h.2⟩
  · have h10 : ¬ (β.virt s.n).dom i := fun h => by
      rcases hdom i h with h | rfl
      · exact hdi h
      · omega
    rw [q4.aframe i Z4 h10];exact (hd i hi).resolve_right fun h => hdi (h β t h4)
  · obtain ⟨r1, r2, r3⟩ := q4.keep i hi
    refine ⟨r1, r2, r3.trans (propext ⟨?_, fun h => .inr h⟩)⟩;rintro (rfl | h)
    · have := q4.nle; omega
    · exact h
  · rcases q4.virn i hi with h | h
    · rcases h with rfl | h
      · exact .inr (Nat.le_refl _)
      · exact .inl h
    · exact .inr Z4
end
noncomputable def inlS (n sz : Nat) (cs sp : List Value) : Value := .chan (some (code (.slice n sz cs sp)))
mutual
inductive FS (k : Nat) (s : St) : Value → Value → Prop where
 | same {v v2 : Value} (h : Sub (idR k) v v2) : FS k s v v2
 | row {i o n sz hi mv : Nat} {cs cs2 : List Value} (hi1 : k ≤ i) (hg : s.get i = some (.arr cs mv false)) (hm : mv ≤ hi) (ho : o + n * sz ≤ hi) (hz : 0 < sz) (hf : FSL k s ((cs.drop o).take (n * sz)) cs2) (hc : clo.cloL cs2 = true) (h1 : cs2.all one = true) :
  FS k s (.slice (some ⟨i, o, some hi⟩) n sz) (inl n sz cs2)
 | agg {a a2 : Array Value} (h : FSL k s a.toList a2.toList) : FS k s (.agg a) (.agg a2)
 | tuple {a a2 : Array Value} (h : FSL k s a.toList a2.toList) : FS k s (.tuple a) (.tuple a2)
 | nil {sz : Nat} (hz : 0 < sz) : FS k s (.slice none 0 0) (inl 0 sz [])
 | rowS {i o n sz hi mv : Nat} {cs cs2 sp : List Value} (hcd : capd = true) (hi1 : k ≤ i) (hg : s.get i = some (.arr cs mv false)) (hm : mv ≤ hi) (ho : o + n * sz + sp.length ≤ hi) (hz : 0 < sz) (hl : cs2.length = n * sz) (hf : FSL k s ((cs.drop o).take (n * sz + sp.length)) (cs2 ++ sp)) (hc : clo.cloL (cs2 ++ sp) = true) (h1 : (cs2 ++ sp).all one = true) :
  FS k s (.slice (some ⟨i, o, some hi⟩) n sz) (inlS n sz cs2 sp)
 | ptr {i o : Nat} {ty : Option TypeId} {cs cs2 : List Value} (hi1 : k ≤ i) (hg : s.get i = some (.cells cs ty)) (hf : FSL k s (cs.drop o) cs2) (hc : clo.cloL cs2 = true) (h1 : cs2.all one = true) : FS k s (.pointer (some ⟨i, o, none⟩)) (.chan (some (code (.ptr cs2))))
 | iface {t : TypeId} {v v2 : Value} (h : FS k s v v2) : FS k s (.iface t v) (.iface t v2)
inductive FSL (k : Nat) (s : St) : List Value → List Value → Prop where
 | nil : FSL k s [] []
 | cons {v v2 : Value} {l l2 : List Value} (h : FS k s v v2) (t : FSL k s l l2) : FSL k s (v :: l) (v2 :: l2)
end
theorem FSL.length {k : Nat} {s : St} : ∀ {l l2 : List Value}, FSL k s l l2 → l2.length = l.length
 | _, _, .nil => rfl
 | _, _, .cons _ t => by simp [t.length]
theorem FSL.get {k : Nat} {s : St} : ∀ {l l2 : List Value}, FSL k s l l2 → ∀ {j : Nat} {v2 : Value}, l2[j]? = some v2 → ∃ v, l[j]? = some v ∧ FS k s v v2
  | _, _, .nil, j, v, h => Z21
  | _, _, .cons h t, j, v, hv => by
    cases j with
    | zero => simp at hv; subst hv; exact ⟨_, rfl, h⟩
    | succ j => simp at hv; simpa using t.get hv
section
variable {P : Program} {G k : Nat} {s : St} {β : Bij} {own : Nat → Option Nat} {w : World}
def iceI (k : Nat) (s : St) (β : Bij) (b j : Nat) (v2 : Value) : Prop :=
 β.ice b j v2 ∨ (∃ (i hi idx mv : Nat) (L : ArrLoc) (cs : List Value) (u : Value), k ≤ i ∧ s.get i = some (.arr cs mv false) ∧ mv ≤ hi ∧ β.arr i hi = some L ∧ L.block = b ∧ L.lo ≤ idx ∧ idx < hi ∧ j = L.base + (idx - L.lo) ∧ cs[idx]? = some u ∧ FS k s u v2 ∧ clo v2 = true ∧ one v2 = true) ∨ ∃ (i : Nat) (ty : Option TypeId) (cs : List Value) (u : Value), k ≤ i ∧ s.get i = some (.cells cs ty) ∧ β.obj i = some b ∧ cs[j]? = some u ∧ FS k s u v2 ∧ clo v2 = true ∧ one v2 = true
open Classical in
noncomputable def iceB (k : Nat) (s : St) (β : Bij) : Bij := ⟨fun i => if i < k then β.obj i else none, fun i hi => if i < k then β.arr i hi else none, fun i => i < k ∧ β.vir i, iceI k s β, β.fix⟩
def iceO (k n : Nat) (own : Nat → Option Nat) : Nat → Option Nat := fun b => match own b with | some i => if i < k ∨ n ≤ i then some i else none | none => none
theorem iceO_none {b n : Nat} (h : own b = none) : iceO k n own b = none := by simp [iceO, h]
theorem ice_moves : Moves (idR k) β (iceB k s β) := by
 refine ⟨?_, ?_, fun _ _ _ h => .inl h⟩
 ·rintro i sp j ⟨h, rfl⟩;exact ⟨fun _ b hb => by simp only [iceB, if_pos h]; exact hb, fun hi _ L hL => by simp only [iceB, if_pos h]; exact hL⟩
 ·rintro i sp j ⟨h, rfl⟩ hv;exact ⟨h, hv⟩
mutual
theorem FS.vr (hs : SR (okK G) β own s.get w) : ∀ {v v2 x : Value}, FS k s v v2 → VR β v x → VR (iceB k s β) v2 x
  | _, _, _, .same h, hv => h.vr ice_moves hv
  | _, _, x, @FS.row _ _ i o n sz hi mv cs cs2 hi1 hg hm ho hz hf hc h1, hv => by
    have key : ∀ {x : Value}, refy x = true → InlR (iceI k s β) (.slice n sz cs2 []) x → VR (iceB k s β) (inl n sz cs2) x := by
      intro x hr hx
      refine .junk _ hr fun i hi => ?_
      rw [dec_code] at hi
      obtain rfl := Option.some.inj hi
      exact hx
    have hl2 := hf.length
    cases hv with
    | sliceVir h hz =>
      have : cs2 = [] := List.eq_nil_of_length_eq_zero (by rw [hl2]; simp)
      subst this
      exact key rfl (.none hz)
    | @sliceArr _ _ _ _ _ cap L c hL g1 g2 _ hb hcap hbd =>
      refine key rfl ?_
      obtain ⟨r1, r2⟩ := hs.arr _ _ _ hL _ _ _ hg
      have hlen : cs2.length = n * sz := by rw [hl2, List.length_take, List.length_drop]; omega
      by_cases hn : n = 0
      · subst hn
        have : cs2 = [] := List.eq_nil_of_length_eq_zero (by rw [hlen]; omega)
        subst this
        exact .empty hz
      rcases hcap with ⟨rfl, hc1, hc2⟩ | ⟨h0, _⟩
      · refine .slice hz hlen hc1 (by rw [hlen]; simpa using Nat.mul_le_mul_right sz hc1) fun j v hj => ?_
        rw [List.append_nil] at hj
        obtain ⟨u, hu, hfu⟩ := hf.get hj
        have hjl : j < n * sz := by rw [← hlen]; exact (List.getElem?_eq_some_iff.1 hj).1
        rw [List.getElem?_take_of_lt hjl, List.getElem?_drop] at hu
        exact .inr (.inl ⟨i, hi, o + j, mv, L, cs, u, hi1, hg, hm, hL, rfl, by omega, by omega, by omega, hu, hfu, clo_all.1 hc v (List.mem_of_getElem? hj), List.all_eq_true.1 h1 v (List.mem_of_getElem? hj)⟩)
      · exact absurd h0 hn
  | _, _, _, .agg h, .agg hv => .agg (h.vrs hs hv)
  | _, _, _, .tuple h, .tuple hv => .tuple (h.vrs hs hv)
  | _, _, _, .nil hz, .sliceNil => by
    refine .junk _ rfl fun i hi => ?_
    rw [dec_code] at hi
    obtain rfl := Option.some.inj hi
    exact .none hz
  | _, _, x, @FS.rowS _ _ i o n sz hi mv cs cs2 sp hcd hi1 hg hm ho hz hl hf hc h1, hv => by
    have key : ∀ {x : Value}, refy x = true → InlR (iceI k s β) (.slice n sz cs2 sp) x → VR (iceB k s β) (inlS n sz cs2 sp) x := by
      intro x hr hx
      refine .junk _ hr fun i hi => ?_
      rw [dec_code] at hi
      obtain rfl := Option.some.inj hi
      exact hx
    cases hv with
    | sliceVir h hz h0 =>
      have e1 : cs2 = [] := List.eq_nil_of_length_eq_zero (by rw [hl]; simp)
      have e2 : sp = [] := List.eq_nil_of_length_eq_zero (by omega)
      subst e1 e2
      exact key rfl (.none hz)
    | @sliceArr _ _ _ _ _ cap L c hL g1 g2 _ hb hcap hbd =>
      have hbd := hbd hcd
      refine key rfl ?_
      obtain ⟨r1, r2⟩ := hs.arr _ _ _ hL _ _ _ hg
      rcases hcap with ⟨rfl, hc1, hc2⟩ | ⟨h0, h00⟩
      · refine .slice hz hl hc1 (by rw [hl]; omega) fun j v hj => ?_
        obtain ⟨u, hu, hfu⟩ := hf.get hj
        have hjl : j < n * sz + sp.length := by
          have := (List.getElem?_eq_some_iff.1 hj).1
          rw [List.length_append, hl] at this
          exact this
        rw [List.getElem?_take_of_lt hjl, List.getElem?_drop] at hu
        exact .inr (.inl ⟨i, hi, o + j, mv, L, cs, u, hi1, hg, hm, hL, rfl, by omega, by omega, by omega, hu, hfu, clo_all.1 hc v (List.mem_of_getElem? hj), List.all_eq_true.1 h1 v (List.mem_of_getElem? hj)⟩)
      · subst h0 h00
        have e1 : cs2 = [] := List.eq_nil_of_length_eq_zero (by rw [hl]; simp)
        have e2 : sp = [] := List.eq_nil_of_length_eq_zero (by rw [Nat.zero_mul] at ho hbd; omega)
        subst e1 e2
        exact .empty hz
  | _, _, x, @FS.ptr _ _ i o ty cs cs2 hi1 hg hf hc h1, hv => by
    cases hv with
    | ptrObj h =>
      refine .junk _ rfl fun i' hi' => ?_
      rw [dec_code] at hi'
      obtain rfl := Option.some.inj hi'
      refine .ptr fun j v hj => ?_
      obtain ⟨u, hu, hfu⟩ := hf.get hj
      rw [List.getElem?_drop] at hu
      exact .inr (.inr ⟨i, ty, cs, u, hi1, hg, h, hu, hfu, clo_all.1 hc v (List.mem_of_getElem? hj), List.all_eq_true.1 h1 v (List.mem_of_getElem? hj)⟩)
  | _, _, _, .iface h, .iface hv => .iface (h.vr hs hv)
theorem FSL.vrs (hs : SR (okK G) β own s.get w) : ∀ {l l2 x : List Value}, FSL k s l l2 → VRs β l x → VRs (iceB k s β) l2 x
  | _, _, _, .nil, .nil => .nil
  | _, _, _, .cons h t, .cons hv tv => .cons (h.vr hs hv) (t.vrs hs tv)
end
def cutSt (k : Nat) (s : St) : St := ⟨T.ofList ((List.range k).map fun i => (s.get i).getD .dead), s.n⟩
theorem cutSt_get {k : Nat} {s : St} (i : Nat) : (cutSt k s).get i = if i < k then some ((s.get i).getD .dead) else none := by
 show (T.ofList ((List.range k).map fun i => (s.get i).getD .dead)).get i = _;rw [T.get_ofList];by_cases h : i < k
 ·rw [if_pos h, List.getElem?_map, List.getElem?_range h]; rfl
 ·rw [if_neg h, List.getElem?_eq_none Z15]
theorem sr_ice (hwf : s.WF) (hs : SR (okK G) β own s.get w) (hself : ∀ i, i < k → ORel (idR k) (s.get i) (s.get i)) (hsome : ∀ i, i < k → ∃ o, s.get i = some o) : SR (okK G) (iceB k s β) (iceO k s.n own) (cutSt k s).get w := by
  have hget : ∀ i, i < k → (cutSt k s).get i = s.get i := fun i hi => by
    obtain ⟨o, ho⟩ := hsome i hi;rw [cutSt_get, if_pos hi, ho]; rfl
  have hobj : ∀ {i b}, (iceB k s β).obj i = some b → i < k ∧ β.obj i = some b := by
    intro i b h;by_cases hi : i < k
    · simp only [iceB, if_pos hi] at h; exact ⟨hi, h⟩
    · simp only [iceB, if_neg hi] at h; cases h
  have harr : ∀ {i hi L}, (iceB k s β).arr i hi = some L → i < k ∧ β.arr i hi = some L := by
    intro i hi' L h;by_cases hi : i < k
    · simp only [iceB, if_pos hi] at h; exact ⟨hi, h⟩
    · simp only [iceB, if_neg hi] at h; cases h
  have hown : ∀ {b i}, i < k → own b = some i → iceO k s.n own b = some i := fun hi h => by simp [iceO, h, hi]
  refine ⟨fun i b hb => ?_, fun i hi L hL cs mv ro hc => ?_, fun i hi hi' L L' h1 h2 => hs.loc _ _ _ _ _ (harr h1).2 (harr h2).2, fun i hi L h => hs.blk _ _ _ (harr h).2, fun i ⟨b, hb⟩ ⟨hi, L, hL⟩ => hs.one _ ⟨b, (hobj hb).2⟩ ⟨hi, L, (harr hL).2⟩, fun b i hb => ?_, fun i ⟨b, hb⟩ hv => hs.vir _ ⟨b, (hobj hb).2⟩ hv.2, ⟨fun b j v hv => ?_, fun b n hv => let ⟨q1, q2, q3⟩ := hs.ice.fx b n hv; ⟨iceO_none q1, q2, q3⟩⟩⟩
  · obtain ⟨hi, hb⟩ := hobj hb
    obtain ⟨q1, q2, q3⟩ := hs.obj i b hb;refine ⟨hown hi q1, q2, fun o ho => ?_⟩;rw [hget i hi] at ho;have hr := hself i hi;rw [ho] at hr;exact OSub.obj ice_moves hr (q3 o ho)
  · obtain ⟨hi', hL⟩ := harr hL
    rw [hget i hi'] at hc;obtain ⟨q1, q2⟩ := hs.arr i hi L hL cs mv ro hc;have hr := hself i hi';rw [hc] at hr;refine ⟨q1, fun hm => ?_⟩;obtain ⟨r1, r2, r3⟩ := q2 hm;cases hr with
    | arr hsub =>
      refine ⟨arr_moves ice_moves hsub r1, r2, ?_⟩;cases ro with
      | true => exact iceO_none r3
      | false => exact hown hi' r3
  · unfold iceO at hb
    split at hb
    · rename_i j ho
      exact hs.small _ _ ho
    · cases hb
  · rcases hv with hv | ⟨i, hi, idx, mv, L, cs, u, h1, h2, h3, h4, rfl, h6, h7, rfl, h9, h10, h11, h12⟩ | ⟨i, ty, cs, u, h1, h2, h3, h9, h10, h11, h12⟩
    · obtain ⟨q1, q2, q3, q4, x, q5, q6⟩ := hs.ice.at_ b j v hv
      exact ⟨iceO_none q1, q2, q3, q4, x, q5, VR.clo (β := β) (β' := iceB k s β) (fun _ _ _ h => .inl h) q3 q6⟩
    · obtain ⟨r1, r2⟩ := hs.arr i hi L h4 cs mv false h2
      obtain ⟨⟨p1, p2, c, t, fr, p3, p4, p5, p6⟩, p7, p8⟩ := r2 h3;simp only [Bool.false_eq_true, if_false] at p8;refine ⟨?_, p7, h11, h12, ?_⟩
      · unfold iceO
        rw [p8];simp only;rw [if_neg (by have := hwf.lt h2; omega)]
      · obtain ⟨u', x, q1, q2, q3⟩ := p6 idx h6 h7
        rw [h9] at q1;obtain rfl := Option.some.inj q1;refine ⟨x, ?_, h10.vr hs q3⟩;unfold World.cell?;rw [p3];simpa using q2
    · obtain ⟨q1, q2, q3⟩ := hs.obj i b h3
      obtain ⟨c, t, e, q4, _⟩ := q3 _ h2;obtain ⟨x, q5, q6⟩ := q4.get h9;refine ⟨?_, q2, h11, h12, x, ?_, h10.vr hs q6⟩
      · unfold iceO
        rw [q1];simp only;rw [if_neg (by have := hwf.lt h2; omega)]
      · unfold World.cell?
        rw [e];simpa using q5
theorem sc_ice {f : FuncId} {args : List Value} {Q Q' : Value → St → Prop} (hk : s.n = k) (h : SC P G f args s Q)
    (hq : ∀ v s', Q v s' → ∃ v2, FS k s' v v2 ∧ (∀ i, i < k → ORel (idR k) (s'.get i) (s'.get i)) ∧ (∀ i, i < k → ∃ o, s'.get i = some o) ∧ Q' v2 (cutSt k s')) : SC P G f args s Q' := by
  intro hw β own w args' h1 h2 h3 h4 cs0;obtain ⟨v, s', β', own', w', v', g1, g2, g3, g4, g5, g6, g7, g8⟩ := h hw β own w args' h1 h2 h3 h4 cs0;obtain ⟨v2, q1, q2, q3, q4⟩ := hq v s' g1;have hsr := sr_ice g2 g5 q2 q3;have hlt : ∀ i, β.dom i → i < k := fun i hi => hk ▸ h3 i hi
  have hget : ∀ i, i < k → (cutSt k s').get i = s'.get i := fun i hi => by
    obtain ⟨o, ho⟩ := q3 i hi;rw [cutSt_get, if_pos hi, ho]; rfl
  have hnle := g4.nle;refine ⟨v2, cutSt k s', iceB k s' β', iceO k s'.n own', w', v', q4, fun i hi => ?_, ⟨hnle, fun l hl => ?_⟩, ⟨⟨fun i b hb => ?_, fun i hi L hL => ?_, fun i hi => ⟨hlt i (.vir hi), g4.le.vir i hi⟩, fun b j v hv => .inl (g4.le.ice b j v hv), g4.le.fix⟩, fun i hi => ?_, hnle, fun i hi hd => ?_, g4.size, fun b hb ho => ?_, g4.os, g4.tape, g4.output, fun i hi => ?_, fun i hi => g4.virn i hi.2, g4.drawn⟩, hsr, q1.vr g5 g6, g7, g8⟩
  · rw [cutSt_get, if_neg (by have : s'.n ≤ i := hi; omega)]
  · have hlk : l < k := by
      rcases Nat.lt_or_ge l k with h | h
      · exact h
      · rw [hw l Z4] at hl; cases hl
    rw [hget l hlk];exact g3.loop l hl
  · have := hlt i (.inl ⟨b, hb⟩)
    simp only [iceB, if_pos this];exact g4.le.left i b hb
  · have := hlt i (.inr ⟨hi, L, hL⟩)
    simp only [iceB, if_pos this];exact g4.le.right i hi L hL
  · have hd : i < k ∧ β'.dom i := by
      rcases hi with ⟨b, hb⟩ | ⟨hi, L, hL⟩ | hv
      · by_cases h : i < k
        · simp only [iceB, if_pos h] at hb; exact ⟨h, .inl ⟨b, hb⟩⟩
        · simp only [iceB, if_neg h] at hb; cases hb
      · by_cases h : i < k
        · simp only [iceB, if_pos h] at hL; exact ⟨h, .inr ⟨hi, L, hL⟩⟩
        · simp only [iceB, if_neg h] at hL; cases hL
      · exact ⟨hv.1, .vir hv.2⟩
    rcases g4.new i hd.2 with h | h
    · exact .inl h
    · omega
  · rw [hget i (hk ▸ hi)]
    exact g4.aframe i hi hd
  · have hn : (cutSt k s').n = s'.n := rfl
    obtain ⟨r1, r2⟩ := g4.cframe b hb ho;refine ⟨?_, r2⟩;unfold iceO;rw [r1];cases hob : own b with
    | none => rfl
    | some i =>
      have hi := ho i hob;simp only;rw [if_pos (.inr hi)]
  · have hi : s'.n ≤ i := hi
    have hik : ¬ i < k := Z4
    have hnd : ¬ β.dom i := fun h => hik (hlt i h)
    refine ⟨?_, ?_, propext ⟨fun h => absurd h.1 hik, fun h => absurd (.vir h) hnd⟩⟩
    · simp only [iceB, if_neg hik]
      cases hx : β.obj i with
      | none => rfl
      | some b => exact absurd (.inl ⟨b, hx⟩) hnd
    · simp only [iceB, if_neg hik]
      funext hh
      cases hx : β.arr i hh with
      | none => rfl
      | some b => exact absurd (.inr ⟨hh, b, hx⟩) hnd
end
end Go.Ai