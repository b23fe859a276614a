/-
  More rules for runs: chunks, bits in slots, drawn regions, appends to what is fresh.
-/
import Derived.Test.YtfnbgfmmlgbfjaaGreatDoorAiUse
namespace Go.Ai

section
variable {C : Cfg} {fid : FuncId} {e : Env} {s : St}

theorem evl_chunk (N k : Nat) {ops : Array Oper} {l : List Oper} {R : Env → St → Prop} (h : isRet (execOps C (run C N) ops (l.take k) e s) = true)
    (hR : EvL C ops (l.drop k) (getEnv (execOps C (run C N) ops (l.take k) e s)) (getSt (execOps C (run C N) ops (l.take k) e s)) R) : EvL C ops l e s R := by
  obtain ⟨n, hR⟩ := hR
  refine ⟨max N n, ?_⟩
  rw [← List.take_append_drop k l, ops_append, M.all_bind]
  refine (execOps_le (Nat.le_max_left N n) (l.take k) e s).all ?_
  rw [isRet_eq h]
  exact (execOps_le (Nat.le_max_right N n) (l.drop k) _ _).all hR

/-- a bit in a slot: either -/
theorem evl_bool (d : Nat) {ops : Array Oper} {l : List Oper} {R : Env → St → Prop} (h : e = e.put d (.bool (asB (e.get d)))) (ht : asB (e.get d) = true → EvL C ops l (e.put d (.bool true)) s R)
    (hf : asB (e.get d) = false → EvL C ops l (e.put d (.bool false)) s R) : EvL C ops l e s R := by
  rw [h]
  cases hb : asB (e.get d) with
  | true => exact ht hb
  | false => exact hf hb

theorem evl_op {ops : Array Oper} {o : Oper} {l : List Oper} {R : Env → St → Prop} {v : Value} {s' : St} (hw : Region.wanted o (yieldedV ops e) = true) (hv : evalOp C e.eval s o.op = some (v, s'))
    (ho : oneOp C (fun _ _ => .fail) e s o.op = .ofOption (evalOp C e.eval s o.op)) (h : EvL C ops l (e.dst o.dst v) s' R) : EvL C ops (o :: l) e s R := evl_ofOp hw (evo_eval hv ho h)

/-! ### drawn regions -/
def EvD (C : Cfg) (ops : Array Oper) (i : Nat) (l : List Oper) (L : Log) (e : Env) (s : St) (R : Env → St → Prop) : Prop := ∃ n, (execDraw C (run C n) ops (Region.before ops) i l L e s).All fun x => R x.1 x.2

theorem ev_draw {id : Nat} {ops : Array Oper} {Q : Out → Env → St → Prop} (h : EvD C ops 0 ops.toList ⟨[], []⟩ e s fun e1 s1 => Q .normal e1 s1) : EvC C fid (.region id ops true) e s Q := by
  obtain ⟨n, h⟩ := h
  refine ⟨n, ?_⟩
  unfold execC
  simp only [cond_true]
  rw [M.all_bind]
  exact h

/-- what the log becomes by an operation -/
def drawLog (C : Cfg) (ops : Array Oper) (i : Nat) (o : Oper) (L : Log) (e : Env) (s : St) (v : Value) (s' : St) : Option Log :=
  match opClass C o.op with
  | 0 | 1 => some L
  | 2 => if L.effects.all fun x => ((Region.before ops).getD i 0).testBit x.1 || sameAgain C o.op e x.2.1 v then some { L with reads := (i, o.op, e, v) :: L.reads } else none
  | _ => if (L.effects.all fun x => ((Region.before ops).getD i 0).testBit x.1) && (L.reads.all fun x => ((Region.before ops).getD i 0).testBit x.1 || sameAgain C x.2.1 x.2.2.1 s' x.2.2.2) then
      some { L with effects := (i, s, s') :: L.effects } else none

theorem draw_one {rc : Rec} {ops : Array Oper} {i : Nat} {o : Oper} {l : List Oper} {L L' : Log} {v : Value} {s' : St} (hw : Region.wanted o (yieldedV ops e) = true) (ho : oneOp C rc e s o.op = .ret (v, s')) (hl : drawLog C ops i o L e s v s' = some L') :
    execDraw C rc ops (Region.before ops) i (o :: l) L e s = execDraw C rc ops (Region.before ops) (i + 1) l L' (e.dst o.dst v) s' := by
  conv => lhs; unfold execDraw
  rw [if_pos hw, ho]
  unfold drawLog at hl
  simp only
  split at hl
  · rename_i h; obtain rfl := Option.some.inj hl; rw [h]; rfl
  · rename_i h; obtain rfl := Option.some.inj hl; rw [h]; rfl
  · rename_i h
    split at hl
    · rename_i hc; obtain rfl := Option.some.inj hl; rw [h]; simp only; rw [if_pos hc]
    · cases hl
  · rename_i h0 h1 h2
    split at hl
    · rename_i hc
      obtain rfl := Option.some.inj hl
      split
      · rename_i h; exact absurd h h0
      · rename_i h; exact absurd h h1
      · rename_i h; exact absurd h h2
      · rw [if_pos hc]
    · cases hl
theorem draw_skip {rc : Rec} {ops : Array Oper} {i : Nat} {o : Oper} {l : List Oper} {L : Log} (hw : Region.wanted o (yieldedV ops e) = false) :
    execDraw C rc ops (Region.before ops) i (o :: l) L e s = execDraw C rc ops (Region.before ops) (i + 1) l L (e.dst o.dst undef) s := by
  conv => lhs; unfold execDraw
  rw [if_neg (by rw [hw]; exact Bool.false_ne_true)]

/-- a chunk of a drawn region -/
def drawRun (C : Cfg) (rc : Rec) (ops : Array Oper) : Nat → List Oper → Log → Env → St → Option (Log × Env × St)
  | _, [], L, e, s => some (L, e, s)
  | i, o :: rest, L, e, s =>
    if Region.wanted o (yieldedV ops e) then
      match oneOp C rc e s o.op with
      | .ret (v, s') =>
        match drawLog C ops i o L e s v s' with
        | some L' => drawRun C rc ops (i + 1) rest L' (e.dst o.dst v) s'
        | none => none
      | _ => none
    else drawRun C rc ops (i + 1) rest L (e.dst o.dst undef) s

theorem drawRun_eq {rc : Rec} {ops : Array Oper} : ∀ (l m : List Oper) (i : Nat) (L : Log) (e : Env) (s : St) (x : Log × Env × St), drawRun C rc ops i l L e s = some x →
    execDraw C rc ops (Region.before ops) i (l ++ m) L e s = execDraw C rc ops (Region.before ops) (i + l.length) m x.1 x.2.1 x.2.2
  | [], m, i, L, e, s, x, h => by cases h; rfl
  | o :: l, m, i, L, e, s, x, h => by
    unfold drawRun at h
    split at h
    · rename_i hw
      split at h
      · rename_i v s' ho
        split at h
        · rename_i L' hl
          rw [List.cons_append, draw_one hw ho hl, drawRun_eq l m _ _ _ _ x h, List.length_cons]
          congr 1; omega
        · cases h
      · cases h
    · rename_i hw
      rw [List.cons_append, draw_skip (by simpa using hw), drawRun_eq l m _ _ _ _ x h, List.length_cons]
      congr 1; omega

def drL (x : Option (Log × Env × St)) : Log := match x with | some y => y.1 | none => ⟨[], []⟩
def drE (x : Option (Log × Env × St)) : Env := match x with | some y => y.2.1 | none => ⟨0, .e⟩
def drS (x : Option (Log × Env × St)) : St := match x with | some y => y.2.2 | none => ⟨.e, 0⟩
theorem dr_some {x : Option (Log × Env × St)} (h : x.isSome = true) : x = some (drL x, drE x, drS x) := by
  cases x with
  | none => cases h
  | some y => rfl

theorem execDraw_le {n m : Nat} (h : n ≤ m) {ops : Array Oper} {ms : Array Nat} (l : List Oper) (i : Nat) (L : Log) (e : Env) (s : St) : MLe (execDraw C (run C n) ops ms i l L e s) (execDraw C (run C m) ops ms i l L e s) := execDraw_mono (run_mono h) l i L e s

theorem MLe.ret_eq {α : Type} {a : α} {m : M α} (h : MLe (.ret a) m) : m = .ret a := by cases h; rfl
theorem drawRun_mono {rc rc' : Rec} (hrc : ∀ t s, MLe (rc t s) (rc' t s)) {ops : Array Oper} : ∀ (l : List Oper) (i : Nat) (L : Log) (e : Env) (s : St) (x : Log × Env × St), drawRun C rc ops i l L e s = some x → drawRun C rc' ops i l L e s = some x
  | [], _, _, _, _, _, h => h
  | o :: l, i, L, e, s, x, h => by
    unfold drawRun at h ⊢
    split at h
    · rename_i hw
      rw [if_pos hw]
      split at h
      · rename_i v s' ho
        have := oneOp_mono (C := C) hrc e s o.op
        rw [ho] at this
        rw [this.ret_eq]
        simp only
        cases hl : drawLog C ops i o L e s v s' with
        | none => simp only [hl] at h; cases h
        | some L' =>
          simp only [hl] at h ⊢
          exact drawRun_mono hrc l _ _ _ _ x h
      · cases h
    · rename_i hw
      rw [if_neg hw]
      exact drawRun_mono hrc l _ _ _ _ x h

theorem evd_chunk (N k : Nat) {ops : Array Oper} {i : Nat} {l : List Oper} {L : Log} {R : Env → St → Prop} (h : (drawRun C (run C N) ops i (l.take k) L e s).isSome = true)
    (hR : EvD C ops (i + (l.take k).length) (l.drop k) (drL (drawRun C (run C N) ops i (l.take k) L e s)) (drE (drawRun C (run C N) ops i (l.take k) L e s)) (drS (drawRun C (run C N) ops i (l.take k) L e s)) R) : EvD C ops i l L e s R := by
  obtain ⟨n, hR⟩ := hR
  refine ⟨max N n, ?_⟩
  have h1 := drawRun_mono (C := C) (ops := ops) (run_mono (C := C) (Nat.le_max_left N n)) (l.take k) i L e s _ (dr_some h)
  have h2 := drawRun_eq (C := C) (l.take k) (l.drop k) i L e s _ h1
  rw [List.take_append_drop] at h2
  rw [h2]
  exact (execDraw_le (Nat.le_max_right N n) _ _ _ _ _).all hR

theorem evd_nil {ops : Array Oper} {i : Nat} {L : Log} {R : Env → St → Prop} (h : R e s) : EvD C ops i [] L e s R := ⟨0, h⟩
theorem evd_op {ops : Array Oper} {i : Nat} {o : Oper} {l : List Oper} {L L' : Log} {R : Env → St → Prop} {v : Value} {s' : St} (hw : Region.wanted o (yieldedV ops e) = true) (hv : evalOp C e.eval s o.op = some (v, s'))
    (ho : ∀ rc, oneOp C rc e s o.op = .ofOption (evalOp C e.eval s o.op)) (hl : drawLog C ops i o L e s v s' = some L') (h : EvD C ops (i + 1) l L' (e.dst o.dst v) s' R) : EvD C ops i (o :: l) L e s R := by
  obtain ⟨n, h⟩ := h
  refine ⟨n, ?_⟩
  rw [draw_one hw (by rw [ho, hv]; rfl) hl]
  exact h

/-! ### equal to itself -/
mutual
theorem veq_refl : ∀ v : Value, veq v v = true
  | .bool _ => by simp [veq]
  | .int _ _ => by simp [veq]
  | .float _ _ => by simp [veq]
  | .complex _ _ _ => by simp [veq]
  | .string _ => by simp [veq]
  | .pointer _ => by simp [veq]
  | .slice _ _ _ => by simp [veq]
  | .map _ => by simp [veq]
  | .chan _ => by simp [veq]
  | .func _ a c => by simp [veq, veqA_refl a, veqA_refl c]
  | .nilFunc => by simp [veq]
  | .iface _ x => by simp [veq, veq_refl x]
  | .nilIface => by simp [veq]
  | .agg a => by simp [veq, veqA_refl a]
  | .tuple a => by simp [veq, veqA_refl a]
theorem veqA_refl : ∀ a : Array Value, veqA a a = true
  | ⟨l⟩ => by simp [veqA, veqL_refl l]
theorem veqL_refl : ∀ l : List Value, veqL l l = true
  | [] => by simp [veqL]
  | v :: l => by simp [veqL, veq_refl v, veqL_refl l]
end
theorem sameAgain_of {o : Op} {v : Value} {s' : St} (h : evalOp C e.eval s o = some (v, s')) : sameAgain C o e s v = true := by
  unfold sameAgain
  rw [h]
  exact veq_refl v

/-! ### appends -/
/-- the slice type's cells and bytes -/
def appTy (C : Cfg) (t : TypeId) (sz bytes : Nat) : Bool :=
  match C.ty t with
  | some { desc := .slice elem, .. } =>
    match C.ty elem with
    | some { size := sz', bytes := b', zero := some z, .. } => Nat.beq sz' sz && Nat.beq b' bytes && Nat.beq sz z.cells.size && Nat.blt 0 sz && Nat.blt 0 bytes
    | _ => false
  | _ => false

theorem setF_same {α : Type} : ∀ (f : Nat) (t : T α) (k : Nat) (x : α), k < f → t.get k = some x → T.setF f t k x = t
  | 0, _, k, _, h, _ => absurd h (Nat.not_lt_zero k)
  | f + 1, .e, k, x, h, hg => by cases hg
  | f + 1, .n l v r, k, x, h, hg => by
    unfold T.setF
    unfold T.get at hg
    cases h0 : Nat.beq k 0 with
    | true =>
      simp only [h0, cond_true] at hg ⊢
      rw [← hg]; rfl
    | false =>
      have hk : k ≠ 0 := by rintro rfl; cases h0
      simp only [h0, cond_false] at hg ⊢
      cases h1 : Nat.beq (k % 2) 1 with
      | true =>
        simp only [h1, cond_true] at hg ⊢
        show T.n (T.setF f l (k / 2) x) v r = T.n l v r
        rw [setF_same f l (k / 2) x (by omega) hg]
      | false =>
        simp only [h1, cond_false] at hg ⊢
        show T.n l v (T.setF f r (k / 2 - 1) x) = T.n l v r
        rw [setF_same f r (k / 2 - 1) x (by omega) hg]
theorem St.set_same {s : St} {i : Nat} {o : AObj} (h : s.get i = some o) : s.set i o = s := by
  cases s with
  | mk hh n =>
    show St.mk (hh.set i o) n = St.mk hh n
    rw [show hh.set i o = hh from setF_same _ _ _ _ (Nat.lt_succ_self i) h]

/-- a slice of an input that was laid -/
theorem firstV_slot {s : St} {sz n z k mv : Nat} {a : Option Addr} {row : List Value} (hg : s.get k = some (.arr row mv true)) (hlen : row.length = n * sz)
    (h : (a = none ∧ n = 0 ∧ z = 0) ∨ (a = some ⟨k, 0, some (n * sz)⟩ ∧ z = sz ∧ mv = if n = 0 then 1 else 0)) : firstV s sz n (.slice a n z) = some row := by
  rcases h with ⟨rfl, rfl, rfl⟩ | ⟨rfl, rfl, rfl⟩
  · have : row = [] := List.length_eq_zero_iff.1 (by omega)
    subst this; rfl
  · simp only [firstV]
    rw [if_pos ⟨trivial, Nat.le_refl _⟩]
    by_cases h0 : n = 0
    · rw [if_pos h0]
      have hr : row = [] := List.length_eq_zero_iff.1 (by rw [hlen, h0]; omega)
      rw [hr]
    · rw [if_neg h0]
      simp only [St.cellsAt, hg]
      rw [if_pos ⟨by rw [if_neg h0]; omega, by omega, by omega⟩]
      simp only [List.drop_zero]
      rw [List.take_of_length_le (by omega)]
theorem plain_one {l : List Value} (h : l.all plainC = true) : l.all one = true := by
  rw [List.all_eq_true] at h ⊢
  intro v hv
  have := h v hv
  simp only [plainC, Bool.and_eq_true] at this
  exact this.2

theorem append_fresh {t : TypeId} {sz bytes : Nat} (ht : appTy C t sz bytes = true) {id n : Nat} {y : Value} {news : List Value} (hg : s.get id = some (.arr [] 0 false)) (hl : lenV y = some n) (hf : firstV s sz n y = some news) (ho : news.all one = true)
    (hb : n * bytes ≤ 140737488355328) (hn : n = 0 → news = []) :
    appendV C s t (.slice (some ⟨id, 0, some 0⟩) 0 sz) y = some (.slice (some ⟨id, 0, some (n * sz)⟩) n sz, s.set id (.arr news 0 false)) := by
  unfold appTy at ht
  split at ht
  · rename_i elem _ _ _ _ _ hty
    split at ht
    · rename_i sz' b' z _ _ het
      simp only [Bool.and_eq_true, Nat.blt_eq] at ht
      obtain ⟨⟨⟨⟨e1, e2⟩, h1⟩, h2⟩, h3⟩ := ht
      have e1 := Nat.eq_of_beq_eq_true e1
      have e2 := Nat.eq_of_beq_eq_true e2
      have h1 := Nat.eq_of_beq_eq_true h1
      subst e1; subst e2
      unfold appendV
      rw [hty]
      simp only [het]
      rw [if_pos ⟨h1, h2, h3⟩, hl]
      simp only
      rw [hf]
      simp only [if_true]
      by_cases hn0 : n = 0
      · subst hn0
        rw [hn rfl, St.set_same hg]
        simp
      · rw [if_neg hn0, if_pos ⟨by simpa using hb, ho⟩, hg]
        simp
    · cases ht
  · cases ht

/-! ### steps for 'first' -/
theorem ev_regionK (N : Nat) {id : Nat} {ops : Array Oper} {Q : Out → Env → St → Prop} (h : isRet (execOps C (run C N) ops ops.toList e s) = true) (hQ : Q .normal (getEnv (execOps C (run C N) ops ops.toList e s)) (getSt (execOps C (run C N) ops ops.toList e s))) :
    EvC C fid (.region id ops false) e s Q := by
  refine ev_region ⟨N, ?_⟩
  rw [isRet_eq h]
  exact hQ
theorem if_hit {i j : Nat} {p q : Prop} (h : i = j) (hp : p) : if i = j then p else q := by rw [if_pos h]; exact hp
theorem if_miss {i j : Nat} {p q : Prop} (h : ¬ i = j) (hq : q) : if i = j then p else q := by rw [if_neg h]; exact hq

theorem evl_all (N : Nat) {ops : Array Oper} {l : List Oper} {R : Env → St → Prop} (h : isRet (execOps C (run C N) ops l e s) = true) (hR : R (getEnv (execOps C (run C N) ops l e s)) (getSt (execOps C (run C N) ops l e s))) : EvL C ops l e s R := by
  refine ⟨N, ?_⟩
  rw [isRet_eq h]
  exact hR

def getV : Option (Value × St) → Value
  | some x => x.1
  | none => undef
/-- an operation whose answer is a bit: either -/
theorem evl_test {ops : Array Oper} {o : Oper} {l : List Oper} {R : Env → St → Prop} (hw : Region.wanted o (yieldedV ops e) = true) (hv : evalOp C e.eval s o.op = some (.bool (asB (getV (evalOp C e.eval s o.op))), s))
    (ho : oneOp C (fun _ _ => .fail) e s o.op = .ofOption (evalOp C e.eval s o.op)) (ht : asB (getV (evalOp C e.eval s o.op)) = true → EvL C ops l (e.dst o.dst (.bool true)) s R)
    (hf : asB (getV (evalOp C e.eval s o.op)) = false → EvL C ops l (e.dst o.dst (.bool false)) s R) : EvL C ops (o :: l) e s R := by
  cases hb : asB (getV (evalOp C e.eval s o.op)) with
  | true => rw [hb] at hv; exact evl_op hw hv ho (ht hb)
  | false => rw [hb] at hv; exact evl_op hw hv ho (hf hb)

/-- an effect in a drawn region: what was read is read again -/
theorem evd_eff {ops : Array Oper} {i : Nat} {o : Oper} {l : List Oper} {L : Log} {R : Env → St → Prop} {v : Value} {s' : St} {d : Nat × Op × Env × Value} (hw : Region.wanted o (yieldedV ops e) = true) (hv : evalOp C e.eval s o.op = some (v, s'))
    (ho : ∀ rc, oneOp C rc e s o.op = .ofOption (evalOp C e.eval s o.op)) (hc : Nat.ble 3 (opClass C o.op) = true) (hE : (L.effects.all fun x => ((Region.before ops).getD i 0).testBit x.1) = true)
    (hR : ∀ j, j < L.reads.length → ((Region.before ops).getD i 0).testBit (L.reads.getD j d).1 = true ∨ ∃ s'', evalOp C (L.reads.getD j d).2.2.1.eval s' (L.reads.getD j d).2.1 = some ((L.reads.getD j d).2.2.2, s''))
    (h : EvD C ops (i + 1) l { L with effects := (i, s, s') :: L.effects } (e.dst o.dst v) s' R) : EvD C ops i (o :: l) L e s R := by
  refine evd_op hw hv ho ?_ h
  have hc := Nat.le_of_ble_eq_true hc
  unfold drawLog
  split
  · omega
  · omega
  · omega
  · rw [if_pos]
    rw [hE, Bool.true_and, List.all_eq_true]
    intro x hx
    obtain ⟨j, hj, rfl⟩ := List.getElem_of_mem hx
    have := hR j hj
    rw [List.getD_eq_getElem?_getD, List.getElem?_eq_getElem hj, Option.getD_some] at this
    rcases this with h | ⟨s'', h⟩
    · rw [h, Bool.true_or]
    · rw [sameAgain_of h, Bool.or_true]

def getS : Option (Value × St) → St
  | some x => x.2
  | none => ⟨.e, 0⟩
theorem op_some {x : Option (Value × St)} (h : x.isSome = true) : x = some (getV x, getS x) := by
  cases x with
  | none => cases h
  | some y => rfl
theorem length_le_one {j n : Nat} (h : j < n) (hn : Nat.beq n 1 = true) : j = 0 := by
  have := Nat.eq_of_beq_eq_true hn
  omega
theorem length_le_two {j n : Nat} (h : j < n) (hn : Nat.beq n 2 = true) : j = 0 ∨ j = 1 := by
  have := Nat.eq_of_beq_eq_true hn
  omega
theorem length_le_three {j n : Nat} (h : j < n) (hn : Nat.beq n 3 = true) : j = 0 ∨ j = 1 ∨ j = 2 := by
  have := Nat.eq_of_beq_eq_true hn
  omega

theorem evl_append (t sz bytes id n : Nat) (y : Value) (news : List Value) {ops : Array Oper} {o : Oper} {l : List Oper} {R : Env → St → Prop} (hw : Region.wanted o (yieldedV ops e) = true)
    (hv : evalOp C e.eval s o.op = appendV C s t (.slice (some ⟨id, 0, some 0⟩) 0 sz) y) (ho : oneOp C (fun _ _ => .fail) e s o.op = .ofOption (evalOp C e.eval s o.op)) (ht : appTy C t sz bytes = true)
    (hg : s.get id = some (.arr [] 0 false)) (hl : lenV y = some n) (hf : firstV s sz n y = some news) (hone : news.all one = true) (hb : n * bytes ≤ 140737488355328) (hn : n = 0 → news = [])
    (h : EvL C ops l (e.dst o.dst (.slice (some ⟨id, 0, some (n * sz)⟩) n sz)) (s.set id (.arr news 0 false)) R) : EvL C ops (o :: l) e s R :=
  evl_op hw (hv.trans (append_fresh ht hg hl hf hone hb hn)) ho h
theorem evd_append (t sz bytes id n : Nat) (y : Value) (news : List Value) {ops : Array Oper} {i : Nat} {o : Oper} {l : List Oper} {L : Log} {R : Env → St → Prop} {d : Nat × Op × Env × Value} (hw : Region.wanted o (yieldedV ops e) = true)
    (hv : evalOp C e.eval s o.op = appendV C s t (.slice (some ⟨id, 0, some 0⟩) 0 sz) y) (ho : ∀ rc, oneOp C rc e s o.op = .ofOption (evalOp C e.eval s o.op)) (hc : Nat.ble 3 (opClass C o.op) = true)
    (hE : (L.effects.all fun x => ((Region.before ops).getD i 0).testBit x.1) = true) (ht : appTy C t sz bytes = true)
    (hg : s.get id = some (.arr [] 0 false)) (hl : lenV y = some n) (hf : firstV s sz n y = some news) (hone : news.all one = true) (hb : n * bytes ≤ 140737488355328) (hn : n = 0 → news = [])
    (hR : ∀ j, j < L.reads.length → ((Region.before ops).getD i 0).testBit (L.reads.getD j d).1 = true ∨ ∃ s'', evalOp C (L.reads.getD j d).2.2.1.eval (s.set id (.arr news 0 false)) (L.reads.getD j d).2.1 = some ((L.reads.getD j d).2.2.2, s''))
    (h : EvD C ops (i + 1) l { L with effects := (i, s, s.set id (.arr news 0 false)) :: L.effects } (e.dst o.dst (.slice (some ⟨id, 0, some (n * sz)⟩) n sz)) (s.set id (.arr news 0 false)) R) : EvD C ops i (o :: l) L e s R :=
  evd_eff hw (hv.trans (append_fresh ht hg hl hf hone hb hn)) ho hc hE hR h
theorem evd_effK {ops : Array Oper} {i : Nat} {o : Oper} {l : List Oper} {L : Log} {R : Env → St → Prop} {d : Nat × Op × Env × Value} (hw : Region.wanted o (yieldedV ops e) = true) (hv : (evalOp C e.eval s o.op).isSome = true)
    (ho : ∀ rc, oneOp C rc e s o.op = .ofOption (evalOp C e.eval s o.op)) (hc : Nat.ble 3 (opClass C o.op) = true) (hE : (L.effects.all fun x => ((Region.before ops).getD i 0).testBit x.1) = true)
    (hR : ∀ j, j < L.reads.length → ((Region.before ops).getD i 0).testBit (L.reads.getD j d).1 = true ∨ ∃ s'', evalOp C (L.reads.getD j d).2.2.1.eval (getS (evalOp C e.eval s o.op)) (L.reads.getD j d).2.1 = some ((L.reads.getD j d).2.2.2, s''))
    (h : EvD C ops (i + 1) l { L with effects := (i, s, getS (evalOp C e.eval s o.op)) :: L.effects } (e.dst o.dst (getV (evalOp C e.eval s o.op))) (getS (evalOp C e.eval s o.op)) R) : EvD C ops i (o :: l) L e s R :=
  evd_eff hw (op_some hv) ho hc hE hR h
theorem read_again {o : Op} {ev : Env} {s' : St} {v : Value} (h : (evalOp C ev.eval s' o).isSome = true) (hv : getV (evalOp C ev.eval s' o) = v) : ∃ s'', evalOp C ev.eval s' o = some (v, s'') := ⟨_, by rw [← hv]; exact op_some h⟩

/-- a look at memory in a drawn region: ahead of what was done it shows the same -/
theorem evd_readK {ops : Array Oper} {i : Nat} {o : Oper} {l : List Oper} {L : Log} {R : Env → St → Prop} {d : Nat × St × St} (hw : Region.wanted o (yieldedV ops e) = true) (hv : (evalOp C e.eval s o.op).isSome = true)
    (ho : ∀ rc, oneOp C rc e s o.op = .ofOption (evalOp C e.eval s o.op)) (hc : Nat.beq (opClass C o.op) 2 = true)
    (hE : ∀ j, j < L.effects.length → ((Region.before ops).getD i 0).testBit (L.effects.getD j d).1 = true ∨ ∃ s'', evalOp C e.eval (L.effects.getD j d).2.1 o.op = some (getV (evalOp C e.eval s o.op), s''))
    (h : EvD C ops (i + 1) l { L with reads := (i, o.op, e, getV (evalOp C e.eval s o.op)) :: L.reads } (e.dst o.dst (getV (evalOp C e.eval s o.op))) (getS (evalOp C e.eval s o.op)) R) : EvD C ops i (o :: l) L e s R := by
  refine evd_op hw (op_some hv) ho ?_ h
  have hc := Nat.eq_of_beq_eq_true hc
  unfold drawLog
  rw [hc]
  simp only
  rw [if_pos]
  rw [List.all_eq_true]
  intro x hx
  obtain ⟨j, hj, rfl⟩ := List.getElem_of_mem hx
  have := hE j hj
  rw [List.getD_eq_getElem?_getD, List.getElem?_eq_getElem hj, Option.getD_some] at this
  rcases this with h | ⟨s'', h⟩
  · rw [h, Bool.true_or]
  · rw [sameAgain_of h, Bool.or_true]

/-- a text's byte -/
theorem evl_byte {ops : Array Oper} {o : Oper} {l : List Oper} {R : Env → St → Prop} {t : TypeId} {x ix : Operand} {b : ByteArray} {k : IntKind} {i : Int} {c : UInt8} (hw : Region.wanted o (yieldedV ops e) = true) (hop : o.op = .index t x ix) (hx : e.eval x = .string b)
    (hix : e.eval ix = .int k i) (ht : (match C.ty t with | some { desc := .string, .. } => true | _ => false) = true) (h0 : 0 ≤ i) (hc : b[i.toNat]? = some c) (h : EvL C ops l (e.dst o.dst (.int .u8 c.toNat)) s R) : EvL C ops (o :: l) e s R := by
  refine evl_op (v := .int .u8 c.toNat) (s' := s) hw ?_ (by rw [hop]; rfl) h
  rw [hop]
  show (indexV C t (e.eval x) (e.eval ix)).map _ = _
  rw [hx, hix]
  unfold indexV
  split at ht
  · rename_i hty
    rw [hty]
    simp only
    rw [if_pos h0, hc]
    rfl
  · cases ht
/-- a call whose run is known -/
theorem evl_call {ops : Array Oper} {o : Oper} {l : List Oper} {R : Env → St → Prop} {Q : Value → St → Prop} {c : Call} (f : FuncId) (args : List Value) (hw : Region.wanted o (yieldedV ops e) = true) (hop : o.op = .call c) (hb : ∀ b, c.callee ≠ .builtin b)
    (ht : target C s e.eval c = some (.call f args)) (hf : EvF C f args s Q) (h : ∀ v s1, Q v s1 → EvL C ops l (e.dst o.dst v) s1 R) : EvL C ops (o :: l) e s R := by
  refine evl_ofOp hw ?_
  rw [hop]
  refine evo_call (fun rc => ?_) ht (hf.up h)
  unfold oneOp
  split
  · rename_i h1
    cases h1
    exact absurd rfl (hb _)
  · rename_i h1
    cases h1
    rfl
  · rename_i h1; cases h1
  · rename_i h1 _
    exact absurd rfl (h1 _)
/-- whatever longer is appended to a row that is one's own -/
theorem append_more {t : TypeId} {sz bytes : Nat} (ht : appTy C t sz bytes = true) {id len n hi : Nat} {y : Value} {cs news : List Value} (hg : s.get id = some (.arr cs 0 false)) (hhi : hi = cs.length) (hcs : len * sz = cs.length) (hl : lenV y = some n) (hf : firstV s sz n y = some news)
    (ho : news.all one = true) (hb : (len + n) * bytes ≤ 140737488355328) (hn : n = 0 → news = []) :
    appendV C s t (.slice (some ⟨id, 0, some hi⟩) len sz) y = some (.slice (some ⟨id, 0, some (hi + n * sz)⟩) (len + n) sz, s.set id (.arr (cs ++ news) 0 false)) := by
  subst hhi
  unfold appTy at ht
  split at ht
  · rename_i elem _ _ _ _ _ hty
    split at ht
    · rename_i sz' b' z _ _ het
      simp only [Bool.and_eq_true, Nat.blt_eq] at ht
      obtain ⟨⟨⟨⟨e1, e2⟩, h1⟩, h2⟩, h3⟩ := ht
      have e1 := Nat.eq_of_beq_eq_true e1
      have e2 := Nat.eq_of_beq_eq_true e2
      have h1 := Nat.eq_of_beq_eq_true h1
      subst e1; subst e2
      unfold appendV
      rw [hty]
      simp only [het]
      rw [if_pos ⟨h1, h2, h3⟩, hl]
      simp only
      rw [hf]
      simp only [if_true]
      by_cases hn0 : n = 0
      · subst hn0
        rw [hn rfl, List.append_nil, St.set_same hg]
        simp
      · rw [if_neg hn0, if_pos ⟨hb, ho⟩, hg]
        simp only
        rw [if_pos ⟨Nat.zero_le _, Nat.le_refl _, by omega⟩, if_pos (by omega)]
    · cases ht
  · cases ht

theorem evl_more (t sz bytes id len hi n : Nat) (y : Value) (cs news : List Value) {ops : Array Oper} {o : Oper} {l : List Oper} {R : Env → St → Prop} (hw : Region.wanted o (yieldedV ops e) = true)
    (hv : evalOp C e.eval s o.op = appendV C s t (.slice (some ⟨id, 0, some hi⟩) len sz) y) (ho : oneOp C (fun _ _ => .fail) e s o.op = .ofOption (evalOp C e.eval s o.op)) (ht : appTy C t sz bytes = true)
    (hg : s.get id = some (.arr cs 0 false)) (hhi : hi = cs.length) (hcs : len * sz = cs.length) (hl : lenV y = some n) (hf : firstV s sz n y = some news) (hone : news.all one = true) (hb : (len + n) * bytes ≤ 140737488355328) (hn : n = 0 → news = [])
    (h : EvL C ops l (e.dst o.dst (.slice (some ⟨id, 0, some (hi + n * sz)⟩) (len + n) sz)) (s.set id (.arr (cs ++ news) 0 false)) R) : EvL C ops (o :: l) e s R :=
  evl_op hw (hv.trans (append_more ht hg hhi hcs hl hf hone hb hn)) ho h

def slTy (C : Cfg) (t : TypeId) (sz : Nat) : Bool :=
  match C.ty t with
  | some { desc := .slice elem, .. } =>
    match C.ty elem with
    | some et => Nat.beq et.size sz
    | none => false
  | _ => false
theorem slice_hi {t : TypeId} {sz n : Nat} (ht : slTy C t sz = true) {a : Addr} {k : IntKind} {m : Nat} (h : m ≤ n) : sliceV C t (.slice (some a) n sz) none (some (.int k m)) none = some (.slice (some (Addr.plus a 0)) m sz) := by
  unfold slTy at ht
  split at ht
  · rename_i elem _ _ _ _ _ hty
    split at ht
    · rename_i et het
      have e1 := Nat.eq_of_beq_eq_true ht
      unfold sliceV
      rw [hty]
      simp only [boundsV, bound]
      rw [if_pos ⟨by omega, by omega⟩]
      simp only [het]
      rw [if_pos e1]
      simp
    · cases ht
  · cases ht
theorem slice_lo {t : TypeId} {sz n : Nat} (ht : slTy C t sz = true) {a : Addr} {k : IntKind} {m : Nat} (h : m ≤ n) : sliceV C t (.slice (some a) n sz) (some (.int k m)) none none = some (.slice (some (Addr.plus a (m * sz))) (n - m) sz) := by
  unfold slTy at ht
  split at ht
  · rename_i elem _ _ _ _ _ hty
    split at ht
    · rename_i et het
      have e1 := Nat.eq_of_beq_eq_true ht
      unfold sliceV
      rw [hty]
      simp only [boundsV, bound]
      rw [if_pos ⟨by omega, by omega⟩]
      simp only [het]
      rw [if_pos e1]
      simp
    · cases ht
  · cases ht
/-- the inside of the first loop of a text -/
def loopIn : Code → Option Code
  | .loop c => some c
  | .seq a b => match loopIn a with
    | some c => some c
    | none => loopIn b
  | .block _ c => loopIn c
  | .scope c => loopIn c
  | _ => none

theorem evl_slice {ops : Array Oper} {o : Oper} {l : List Oper} {R : Env → St → Prop} {t : TypeId} {x v : Value} {lo hi mx : Option Value} (hw : Region.wanted o (yieldedV ops e) = true) (hv : evalOp C e.eval s o.op = (sliceV C t x lo hi mx).map fun v => (v, s))
    (ho : oneOp C (fun _ _ => .fail) e s o.op = .ofOption (evalOp C e.eval s o.op)) (hs : sliceV C t x lo hi mx = some v) (h : EvL C ops l (e.dst o.dst v) s R) : EvL C ops (o :: l) e s R :=
  evl_op hw (hv.trans (by rw [hs]; rfl)) ho h
/-- a frame that is told slot by slot -/
def mkEnv (n : Nat) (f : Nat → Value) : Env := ⟨n, T.ofList ((List.range n).map f)⟩
theorem mkEnv_get (n : Nat) (f : Nat → Value) (j : Nat) (h : j < n) : (mkEnv n f).get j = f j := by
  have hb : Nat.blt j n = true := by simp [Nat.blt]; omega
  simp only [mkEnv, Env.get, hb, cond_true, T.get_ofList, List.getElem?_map, List.getElem?_range h, Option.map_some, Option.getD_some]
theorem eraseL_length : ∀ l : List Value, (erase.eraseL l).length = l.length
  | [] => by simp [erase.eraseL]
  | v :: l => by simp [erase.eraseL, eraseL_length l]

end
end Go.Ai
