/- The interpreter: what holds of it. -/
import Derived.Test.YtgplkbfjlidinabGreatDoorAiOps10
import Derived.Control
import Derived.Calls
import Derived.Laws.Externs
import Derived.Test.YtgplkbfjlidinabGreatDoorKit
set_option linter.unusedVariables false
set_option linter.unusedSimpArgs false
set_option linter.unnecessarySimpa false
/-
  The machine's own steps, for one goroutine, in a frame or in a round of a range over a function.
-/
namespace Go.Ai
def fgo (b : Frame) (t : Array Value) (ds : List Deferred) (k : List Item) : Frame := { fn := b.fn, tmps := t, todo := k, defers := ds, mode := .run, kind := b.kind, roundOf := b.roundOf }
section
variable {P : Program} {b : Frame} {t : Array Value} {ds : List Deferred} {k : List Item} {cs : List Frame} {w : World}
def feval (t : Array Value) : Operand → Value
 | .tmp j => t.getD j undef
 | .const v => v
 | .global g => .pointer (some ⟨g, 0, none⟩)
 | .func f => .func (.func f) #[] #[]
theorem fgo_eval (x : Operand) : (fgo b t ds k).eval x = feval t x := by cases x <;> rfl
theorem fgo_eval' : (fgo b t ds k).eval = feval t := funext fgo_eval
theorem st_skip : step P (lone (fgo b t ds (.code .skip :: k)) cs w) = .next (lone (fgo b t ds k) cs w) := step_lone_go Z0j
theorem st_label {l : Nat} : step P (lone (fgo b t ds (.code (.label l) :: k)) cs w) = .next (lone (fgo b t ds k) cs w) := step_lone_go Z0j
theorem st_inBlock {id : Nat} : step P (lone (fgo b t ds (.inBlock id :: k)) cs w) = .next (lone (fgo b t ds k) cs w) := step_lone_go Z0j
theorem st_inScope {c : Code} : step P (lone (fgo b t ds (.inScope c :: k)) cs w) = .next (lone (fgo b t ds k) cs w) := step_lone_go Z0j
theorem st_seq {x y : Code} : step P (lone (fgo b t ds (.code (.seq x y) :: k)) cs w) = .next (lone (fgo b t ds (.code x :: .code y :: k)) cs w) := step_lone_go Z0j
theorem st_cond {c : Operand} {x y : Code} {q : Bool} (h : feval t c = .bool q) : step P (lone (fgo b t ds (.code (.cond c x y) :: k)) cs w) = .next (lone (fgo b t ds (.code (if q then x else y) :: k)) cs w) :=
 step_lone_go (by
  have := fgo_eval (b := b) (t := t) (ds := ds) (k := .code (.cond c x y) :: k) c;simp only [fgo] at this;simp [stepG, stepG.exec, fgo, this, h])
theorem st_block {id : Nat} {c : Code} : step P (lone (fgo b t ds (.code (.block id c) :: k)) cs w) = .next (lone (fgo b t ds (.code c :: .inBlock id :: k)) cs w) := step_lone_go Z0j
theorem st_loop {c : Code} : step P (lone (fgo b t ds (.code (.loop c) :: k)) cs w) = .next (lone (fgo b t ds (.code c :: .inLoop c :: k)) cs w) := step_lone_go Z0j
theorem st_inLoop {c : Code} : step P (lone (fgo b t ds (.inLoop c :: k)) cs w) = .next (lone (fgo b t ds (.code c :: .inLoop c :: k)) cs w) := step_lone_go Z0j
theorem st_scope {c : Code} : step P (lone (fgo b t ds (.code (.scope c) :: k)) cs w) = .next (lone (fgo b t ds (.code c :: .inScope c :: k)) cs w) := step_lone_go Z0j
theorem st_exit {id : Nat} {k' : List Item} (h : exitTo id k = some k') : step P (lone (fgo b t ds (.code (.exit id) :: k)) cs w) = .next (lone (fgo b t ds k') cs w) := step_lone_go (by simp [stepG, stepG.exec, fgo, h])
theorem st_ret (hb : b.roundOf = none) : step P (lone (fgo b t ds (.code .ret :: k)) cs w) = .next (lone { fgo b t ds (.code .ret :: k) with mode := .returning } cs w) :=
 step_lone_go (by simp [stepG, stepG.exec, fgo, hb])
theorem st_end (hb : b.roundOf = none) : step P (lone (fgo b t ds []) cs w) = .next (lone { fgo b t ds [] with mode := .returning } cs w) :=
 step_lone_go (by simp [stepG, stepG.exec, fgo, hb])
theorem st_region {id : Nat} {ops : Array Oper} : step P (lone (fgo b t ds (.code (.region id ops false) :: k)) cs w) = .next (lone (fgo b t ds (.inRegion ops (List.range ops.size) :: k)) cs w) := step_lone_go Z0j
theorem st_regionEnd {ops : Array Oper} : step P (lone (fgo b t ds (.inRegion ops [] :: k)) cs w) = .next (lone (fgo b t ds k) cs w) := step_lone_go Z0j
theorem st_draw {id : Nat} {ops : Array Oper} : step P (lone (fgo b t ds (.code (.region id ops true) :: k)) cs w) =
  .next (lone (fgo b t ds (.inRegion ops (Region.schedule (P.follows .mixedOrders) ops (w.tape w.drawn (.order b.fn id))) :: k)) cs w.drew) :=
 step_lone_go (by simp [stepG, stepG.exec, fgo, choose, Sem.run, Question.forced, Question.cut])
def dstAt (t : Array Value) : Option Tmp → Value → Array Value
 | some d, v => t.setIfInBounds d v
 | none, _ => t
theorem finish_op {ops : Array Oper} {i : Nat} {rest : List Nat} {o : Oper} (ho : ops[i]? = some o) (v : Value) : (fgo b t ds (.inRegion ops (i :: rest) :: k)).finish v = fgo b (dstAt t o.dst v) ds (.inRegion ops rest :: k) := by
 cases h : o.dst <;> simp [Frame.finish, fgo, ho, h, dstAt]
theorem st_opSkip {ops : Array Oper} {i : Nat} {rest : List Nat} {o : Oper} (ho : ops[i]? = some o) (hw : Region.wanted o (yielded ops t) = false) :
  step P (lone (fgo b t ds (.inRegion ops (i :: rest) :: k)) cs w) = .next (lone (fgo b (dstAt t o.dst undef) ds (.inRegion ops rest :: k)) cs w) := by
 rw [← finish_op ho];exact step_lone_go (by simp [stepG, stepG.exec, fgo, ho, hw])
theorem stepG_op' {ops : Array Oper} {i : Nat} {rest : List Nat} {o : Oper} (ho : ops[i]? = some o) (hw : Region.wanted o (yielded ops t) = true) (hd : ∀ c, o.op ≠ .defer c) :
    stepG P true { frame := fgo b t ds (.inRegion ops (i :: rest) :: k), callers := cs, status := .running, dying := none } w =
      stepG.apply P true (fgo b t ds (.inRegion ops (i :: rest) :: k)) cs none (execOp (feval t) o) w := by
  have he := fgo_eval' (b := b) (t := t) (ds := ds) (k := .inRegion ops (i :: rest) :: k);simp only [fgo] at he;obtain ⟨dst, op, ty, pos, after, guard⟩ := o;cases hr : b.roundOf with
  | none => simp [stepG, stepG.exec, stepG.oper, Frame.oper?, fgo, ho, hw, hr] at he ⊢; rw [he]
  | some l =>
    simp only [stepG, stepG.exec, stepG.oper, Frame.oper?, fgo, ho, hw, hr, Option.map_some, Option.getD_some, if_true] at he ⊢;cases op <;> first
      | (rw [he]; done)
      | exact absurd rfl (hd _)
theorem st_op {ops : Array Oper} {i : Nat} {rest : List Nat} {o : Oper} (ho : ops[i]? = some o) (hw : Region.wanted o (yielded ops t) = true) (hd : ∀ c, o.op ≠ .defer c) {v : Value} {w' : World}
  (hr : (execOp (feval t) o).run P w = .ok (.value v) w' ∨ ((execOp (feval t) o).run P w = .ok .skip w' ∧ v = undef)) :
  step P (lone (fgo b t ds (.inRegion ops (i :: rest) :: k)) cs w) = .next (lone (fgo b (dstAt t o.dst v) ds (.inRegion ops rest :: k)) cs w') := by
 rw [← finish_op ho];refine step_lone_go ?_;rw [stepG_op' ho hw hd];rcases hr with hr | ⟨hr, rfl⟩ <;> simp [stepG.apply, hr]
theorem st_call {ops : Array Oper} {i : Nat} {rest : List Nat} {o : Oper} (ho : ops[i]? = some o) (hw : Region.wanted o (yielded ops t) = true) (hd : ∀ c, o.op ≠ .defer c) {f : FuncId} {args : Array Value} {w' : World}
  (hr : (execOp (feval t) o).run P w = .ok (.enter f args) w') :
  step P (lone (fgo b t ds (.inRegion ops (i :: rest) :: k)) cs w) = .next (lone (Frame.enter P f args .normal) (fgo b t ds (.inRegion ops (i :: rest) :: k) :: cs) w') := by
 refine step_lone_go ?_;rw [stepG_op' ho hw hd];simp [stepG.apply, hr, fgo]
theorem st_round {ops : Array Oper} {i : Nat} {rest : List Nat} {o : Oper} (ho : ops[i]? = some o) (hw : Region.wanted o (yielded ops t) = true) (hd : ∀ c, o.op ≠ .defer c) {l : Nat} {f : FuncId} {tmps : Array Value} {x y : Code} {w' : World}
  (hr : (execOp (feval t) o).run P w = .ok (.round l f tmps x y) w') :
  step P (lone (fgo b t ds (.inRegion ops (i :: rest) :: k)) cs w) = .next (lone (Frame.round l f tmps x y .normal) (fgo b t ds (.inRegion ops (i :: rest) :: k) :: cs) w') := by
 refine step_lone_go ?_;rw [stepG_op' ho hw hd];simp [stepG.apply, hr, fgo]
theorem st_rangeFunc {f : Operand} {ps : Array Tmp} {x y : Code} {l : Nat} {mark : List Deferred} {w1 : World} {tg : Sem Next}
  (he : (Instr.enterLoop b.fn t ps x y b.roundOf).run P w = .ok (l, mark) w1)
  (ht : tg = (do let d ← resolve (feval t) { callee := .value f, args := #[.const (.func (.yield l) #[] #[])], argTypes := #[] } 0; invoke d.target d.args))
  {g : FuncId} {args : Array Value} {w2 : World} (hr : tg.run P w1 = .ok (.enter g args) w2) :
  step P (lone (fgo b t ds (.code (.rangeFunc f ps x y) :: k)) cs w) = .next (lone (Frame.enter P g args .normal) (fgo b t (mark ++ ds) (.inRangeFunc l :: k) :: cs) w2) := by
 have hev : ∀ k', ({ fgo b t ds k' with todo := .inRangeFunc l :: k, defers := mark ++ (fgo b t ds k').defers } : Frame).eval = feval t := by
  intro k'; funext z; cases z <;> rfl
 refine step_lone_go ?_;have h0 := hev (.code (.rangeFunc f ps x y) :: k);simp only [fgo] at h0;simp only [stepG, stepG.exec, fgo, Sem.runT_eq, he, GStep.bare_after];rw [h0, ← ht];simp [stepG.apply, hr]
theorem st_rangeFuncR {f : Operand} {ps : Array Tmp} {x y : Code} {l : Nat} {mark : List Deferred} {w1 : World} {tg : Sem Next}
  (he : (Instr.enterLoop b.fn t ps x y b.roundOf).run P w = .ok (l, mark) w1)
  (ht : tg = (do let d ← resolve (feval t) { callee := .value f, args := #[.const (.func (.yield l) #[] #[])], argTypes := #[] } 0; invoke d.target d.args))
  {l2 : Nat} {g : FuncId} {tm : Array Value} {x2 y2 : Code} {w2 : World} (hr : tg.run P w1 = .ok (.round l2 g tm x2 y2) w2) :
  step P (lone (fgo b t ds (.code (.rangeFunc f ps x y) :: k)) cs w) = .next (lone (Frame.round l2 g tm x2 y2 .normal) (fgo b t (mark ++ ds) (.inRangeFunc l :: k) :: cs) w2) := by
 have hev : ∀ k', ({ fgo b t ds k' with todo := .inRangeFunc l :: k, defers := mark ++ (fgo b t ds k').defers } : Frame).eval = feval t := by
  intro k'; funext z; cases z <;> rfl
 refine step_lone_go ?_;have h0 := hev (.code (.rangeFunc f ps x y) :: k);simp only [fgo] at h0;simp only [stepG, stepG.exec, fgo, Sem.runT_eq, he, GStep.bare_after];rw [h0, ← ht];simp [stepG.apply, hr]
theorem st_endRange {l : Nat} {jump : Option Code} {w' : World} (h : (Instr.endLoop l).run P w = .ok jump w') :
  step P (lone (fgo b t ds (.endRangeFunc l :: k)) cs w) = .next (lone (fgo b t ds ((jump.map Item.code).toList ++ k)) cs w') := by
 refine step_lone_go ?_;simp [stepG, stepG.exec, fgo, h]
theorem st_beginRound {l : Nat} {w' : World} (hb : b.roundOf = some l) (h : (Instr.beginRound l).run P w = .ok () w') :
  step P (lone (fgo b t ds (.beginRound :: k)) cs w) = .next (lone (fgo b t ds k) cs w') := by
 refine step_lone_go ?_;simp [stepG, stepG.exec, fgo, hb, stepG.apply, h, Frame.finish]
theorem st_leave {l : Nat} {jump : Option Code} {v : Value} {w' : World} (hb : b.roundOf = some l) (hk : b.kind = .normal) (h : (Instr.endRound l jump).run P w = .ok v w') {todo : List Item}
  (ht : (jump = none ∧ todo = []) ∨ (jump = some .ret ∧ ∃ k, todo = .code .ret :: k) ∨ (∃ id k, jump = some (.exit id) ∧ todo = .code (.exit id) :: k ∧ exitTo id k = none)) {c : Frame} :
  step P (lone (fgo b t ds todo) (c :: cs) w) = .next (lone (c.finish v) cs w') := by
 refine step_lone_go ?_;rcases ht with ⟨rfl, rfl⟩ | ⟨rfl, k, rfl⟩ | ⟨id, k, rfl, rfl, he⟩
 ·simp [stepG, stepG.exec, fgo, hb, h, doReturn, hk]
 ·simp [stepG, stepG.exec, fgo, hb, h, doReturn, hk]
 ·simp [stepG, stepG.exec, fgo, hb, h, doReturn, hk, he]
theorem st_collected {blk : Nat} {w' : World} {fr : Frame} (hm : fr.mode = .returning) (hd : fr.defers = { target := .collected blk, args := #[] } :: ds) (h : (Instr.takeDeferred blk).run P w = .ok [] w') :
  step P (lone fr cs w) = .next (lone { fr with defers := ds } cs w') := by
 refine step_lone_go ?_;simp [stepG, unwind, hm, hd, h]
end
end Go.Ai
/-
  What a run does to memory, seen from afar: numbers are only added, a loop stays a loop.
-/
namespace Go.Ai
def isLoop : Option AObj → Prop
 | some (.loop _) => True
 | _ => False
structure Grow (s s' : St) : Prop where
 n : s.n ≤ s'.n
 loop : ∀ l, isLoop (s.get l) → isLoop (s'.get l)
theorem Grow.refl (s : St) : Grow s s := ⟨Nat.le_refl _, fun _ h => h⟩
theorem Grow.trans {s s' s'' : St} (h : Grow s s') (h' : Grow s' s'') : Grow s s'' := ⟨Nat.le_trans h.n h'.n, fun l x => h'.loop l (h.loop l x)⟩
theorem Grow.set {s : St} {i : Nat} {o : AObj} (h : ¬ isLoop (s.get i) ∨ isLoop (some o)) : Grow s (s.set i o) := by
 refine ⟨Nat.le_refl _, fun l hl => ?_⟩;rw [St.get_set];split
 ·rename_i e; subst e;rcases h with h | h
  ·exact absurd hl h
  ·exact h
 ·exact hl
theorem Grow.new (s : St) (hw : s.WF) (o : AObj) : Grow s (s.new o) := by
 refine ⟨Z0x, fun l hl => ?_⟩;rw [St.get_new];split
 ·rename_i e; subst e; rw [hw s.n (Nat.le_refl _)] at hl; exact hl.elim
 ·exact hl
theorem Grow.putCells {s s' : St} {a : Addr} {vs : List Value} (h : s.putCells a vs = some s') (hw : s.WF) : Grow s s' ∧ s'.WF := by
 unfold St.putCells at h;split at h
 ·rename_i hg _;split at h
  ·obtain rfl := Option.some.inj h;exact ⟨.set (.inl Z0v), hw.set hg⟩
  ·cases h
 ·rename_i hg _;split at h
  ·obtain rfl := Option.some.inj h;exact ⟨.set (.inl Z0v), hw.set hg⟩
  ·cases h
 ·cases h
section
variable {C : Cfg}
theorem Grow.store {s s' : St} {t : TypeId} {x v : Value} (h : storeV C s t x v = some s') (hw : s.WF) : Grow s s' ∧ s'.WF := by
 unfold storeV at h;split at h
 ·split at h
  ·exact Grow.putCells h hw
  ·cases h
 ·cases h
theorem Grow.update {s s' : St} {t : TypeId} {m k v : Value} (h : updateV C s t m k v = some s') (hw : s.WF) : Grow s s' ∧ s'.WF := by
 unfold updateV at h;split at h
 ·split at h
  ·rename_i hg;split at h
   ·split at h
    ·obtain rfl := Option.some.inj h; exact ⟨.set (.inl Z0v), hw.set hg⟩
    ·obtain rfl := Option.some.inj h; exact ⟨.set (.inl Z0v), hw.set hg⟩
    ·cases h
   ·cases h
  ·cases h
 ·cases h
theorem Grow.mapEntry {s s' : St} {t : TypeId} {m k v : Value} (h : mapEntryV C s t m k = some (v, s')) (hw : s.WF) : Grow s s' ∧ s'.WF := by
 unfold mapEntryV at h;split at h
 ·split at h
  ·rename_i hg;split at h
   ·split at h
    ·obtain ⟨_, rfl⟩ := Prod.mk.inj (Option.some.inj h); exact ⟨.set (.inl Z0v), hw.set hg⟩
    ·split at h
     ·obtain ⟨_, rfl⟩ := Prod.mk.inj (Option.some.inj h); exact ⟨.set (.inl Z0v), hw.set hg⟩
     ·cases h
    ·cases h
   ·cases h
  ·cases h
 ·cases h
theorem Grow.entryStore {s s' : St} {m k v : Value} (h : entryStoreV s m k v = some s') (hw : s.WF) : Grow s s' ∧ s'.WF := by
 unfold entryStoreV at h;split at h
 ·split at h
  ·rename_i hg;split at h
   ·obtain rfl := Option.some.inj h; exact ⟨.set (.inl Z0v), hw.set hg⟩
   ·cases h
  ·cases h
 ·cases h
theorem Grow.delete {s s' : St} {t : TypeId} {m k : Value} (h : deleteV C s t m k = some s') (hw : s.WF) : Grow s s' ∧ s'.WF := by
 unfold deleteV at h;split at h
 ·split at h
  ·obtain rfl := Option.some.inj h; exact ⟨.refl _, hw⟩
  ·cases h
 ·split at h
  ·rename_i hg;split at h
   ·split at h
    ·obtain rfl := Option.some.inj h; exact ⟨.set (.inl Z0v), hw.set hg⟩
    ·obtain rfl := Option.some.inj h; exact ⟨.refl _, hw⟩
    ·cases h
   ·cases h
  ·cases h
 ·cases h
theorem Grow.range {s s' : St} {t : TypeId} {x v : Value} (h : rangeV C s t x = some (v, s')) (hw : s.WF) : Grow s s' ∧ s'.WF := by
 unfold rangeV at h;split at h
 ·obtain ⟨_, rfl⟩ := Prod.mk.inj (Option.some.inj h); exact ⟨.new s hw _, hw.new _⟩
 ·obtain ⟨_, rfl⟩ := Prod.mk.inj (Option.some.inj h); exact ⟨.new s hw _, hw.new _⟩
 ·split at h
  ·obtain ⟨_, rfl⟩ := Prod.mk.inj (Option.some.inj h); exact ⟨.new s hw _, hw.new _⟩
  ·cases h
 ·cases h
theorem Grow.makeSlice {s s' : St} {t : TypeId} {x y v : Value} (h : makeSliceV C s t x y = some (v, s')) (hw : s.WF) : Grow s s' ∧ s'.WF := by
 unfold makeSliceV at h;split at h
 ·split at h
  ·split at h
   ·obtain ⟨_, rfl⟩ := Prod.mk.inj (Option.some.inj h); exact ⟨.new s hw _, hw.new _⟩
   ·cases h
  ·cases h
 ·cases h
theorem Grow.buildSlice {s s' : St} {t : TypeId} {n : Nat} {ps : List (Nat × Value)} {v : Value} (h : buildSliceV C s t n ps = some (v, s')) (hw : s.WF) : Grow s s' ∧ s'.WF := by
 unfold buildSliceV at h;split at h
 ·split at h
  ·split at h
   ·rw [Option.map_eq_some_iff] at h;obtain ⟨_, _, e⟩ := h;obtain ⟨_, rfl⟩ := Prod.mk.inj e; exact ⟨.new s hw _, hw.new _⟩
   ·cases h
  ·cases h
 ·cases h
theorem Grow.append {s s' : St} {t : TypeId} {x y v : Value} (h : appendV C s t x y = some (v, s')) (hw : s.WF) : Grow s s' ∧ s'.WF := by
 unfold appendV at h;split at h
 ·split at h
  ·split at h
   ·split at h
    ·cases h
    ·split at h
     ·cases h
     ·split at h
      ·split at h
       ·obtain ⟨_, rfl⟩ := Prod.mk.inj (Option.some.inj h); exact ⟨.refl _, hw⟩
       ·split at h
        ·obtain ⟨_, rfl⟩ := Prod.mk.inj (Option.some.inj h); exact ⟨.new s hw _, hw.new _⟩
        ·cases h
      ·split at h
       ·split at h
        ·obtain ⟨_, rfl⟩ := Prod.mk.inj (Option.some.inj h); exact ⟨.refl _, hw⟩
        ·split at h
         ·split at h
          ·rename_i hg _;split at h
           ·split at h
            ·obtain ⟨_, rfl⟩ := Prod.mk.inj (Option.some.inj h); exact ⟨.set (.inl Z0v), hw.set hg⟩
            ·obtain ⟨_, rfl⟩ := Prod.mk.inj (Option.some.inj h);exact ⟨(Grow.set (.inl Z0v)).trans (.new _ (hw.set hg) _), (hw.set hg).new _⟩
           ·cases h
          ·cases h
         ·cases h
       ·cases h
      ·split at h
       ·split at h
        ·obtain ⟨_, rfl⟩ := Prod.mk.inj (Option.some.inj h); exact ⟨.refl _, hw⟩
        ·split at h
         ·obtain ⟨_, rfl⟩ := Prod.mk.inj (Option.some.inj h); exact ⟨.new s hw _, hw.new _⟩
         ·cases h
       ·cases h
      ·cases h
   ·cases h
  ·cases h
 ·cases h
theorem Grow.copy {s s' : St} {t : TypeId} {x y v : Value} (h : copyV C s t x y = some (v, s')) (hw : s.WF) : Grow s s' ∧ s'.WF := by
 unfold copyV at h;split at h
 ·split at h
  ·dsimp only at h;split at h
   ·obtain ⟨_, rfl⟩ := Prod.mk.inj (Option.some.inj h); exact ⟨.refl _, hw⟩
   ·split at h
    ·split at h
     ·split at h
      ·rw [Option.map_eq_some_iff] at h;obtain ⟨_, hp, e⟩ := h;obtain ⟨_, rfl⟩ := Prod.mk.inj e; exact Grow.putCells hp hw
      ·cases h
     ·cases h
    ·cases h
  ·cases h
 ·cases h
theorem Grow.conv {s s' : St} {a b : TypeId} {x v : Value} (h : convS C s a b x = some (v, s')) (hw : s.WF) : Grow s s' ∧ s'.WF := by
 unfold convS at h;split at h
 ·split at h
  ·obtain ⟨_, rfl⟩ := Prod.mk.inj (Option.some.inj h); exact ⟨.new s hw _, hw.new _⟩
  ·cases h
 ·split at h
  ·obtain ⟨_, rfl⟩ := Prod.mk.inj (Option.some.inj h); exact ⟨.refl _, hw⟩
  ·split at h
   ·obtain ⟨_, rfl⟩ := Prod.mk.inj (Option.some.inj h); exact ⟨.refl _, hw⟩
   split at h
   ·split at h
    ·rw [Option.map_eq_some_iff] at h;obtain ⟨_, _, e⟩ := h;obtain ⟨_, rfl⟩ := Prod.mk.inj e; exact ⟨.refl _, hw⟩
    ·cases h
   ·cases h
  ·cases h
 ·split at h
  ·split at h
   ·split at h
    ·obtain ⟨_, rfl⟩ := Prod.mk.inj (Option.some.inj h); exact ⟨.refl _, hw⟩
    ·cases h
   ·cases h
  ·cases h
 ·split at h
  ·rw [Option.map_eq_some_iff] at h;obtain ⟨_, _, e⟩ := h;obtain ⟨_, rfl⟩ := Prod.mk.inj e; exact ⟨.refl _, hw⟩
  ·cases h
 ·split at h
  ·split at h
   ·obtain ⟨_, rfl⟩ := Prod.mk.inj (Option.some.inj h); exact ⟨.refl _, hw⟩
   ·cases h
  ·cases h
 ·split at h
  ·split at h
   ·obtain ⟨_, rfl⟩ := Prod.mk.inj (Option.some.inj h); exact ⟨.refl _, hw⟩
   ·cases h
  ·cases h
 ·rw [Option.map_eq_some_iff] at h;obtain ⟨_, _, e⟩ := h;obtain ⟨_, rfl⟩ := Prod.mk.inj e; exact ⟨.refl _, hw⟩
theorem Grow.clear {s s' : St} {t : TypeId} {x v : Value} (h : clearV C s t x = some (v, s')) (hw : s.WF) : Grow s s' ∧ s'.WF := by
 unfold clearV at h;split at h
 ·split at h
  ·obtain ⟨_, rfl⟩ := Prod.mk.inj (Option.some.inj h);exact ⟨.refl _, hw⟩
  ·split at h
   ·split at h
    ·rw [Option.map_eq_some_iff] at h;obtain ⟨_, hp, e⟩ := h;obtain ⟨_, rfl⟩ := Prod.mk.inj e;exact Grow.putCells hp hw
    ·cases h
   ·cases h
 ·cases h
theorem Grow.builtin {s s' : St} {b : Builtin} {ts : Array TypeId} {args : List Value} {v : Value} (h : builtinV C s b ts args = some (v, s')) (hw : s.WF) : Grow s s' ∧ s'.WF := by
 have pure_ : ∀ {o : Option Value}, (o.map fun v => (v, s)) = some (v, s') → Grow s s' ∧ s'.WF := by
  intro o h;rw [Option.map_eq_some_iff] at h;obtain ⟨_, _, e⟩ := h;obtain ⟨_, rfl⟩ := Prod.mk.inj e; exact ⟨.refl _, hw⟩
 unfold builtinV at h;split at h
 ·exact pure_ h
 ·split at h
  ·split at h
   ·cases h
   ·exact Grow.append h hw
   ·cases h
  ·cases h
 ·exact Grow.copy h hw
 ·exact Grow.clear h hw
 ·rw [Option.map_eq_some_iff] at h;obtain ⟨_, hd, e⟩ := h;obtain ⟨_, rfl⟩ := Prod.mk.inj e; exact Grow.delete hd hw
 ·exact pure_ h
 ·exact pure_ h
 ·exact pure_ h
 ·cases h
theorem Grow.op {s s' : St} {ρ : Operand → Value} {o : Op} {v : Value} (h : Z2m C ρ s o = some (v, s')) (hw : s.WF) : Grow s s' ∧ s'.WF := by
 have pure_ : ∀ {o : Option Value}, (o.map fun v => (v, s)) = some (v, s') → Grow s s' ∧ s'.WF := by
  intro o h;rw [Option.map_eq_some_iff] at h;obtain ⟨_, _, e⟩ := h;obtain ⟨_, rfl⟩ := Prod.mk.inj e; exact ⟨.refl _, hw⟩
 have refl_ : ∀ {x : Value}, some (x, s) = some (v, s') → Grow s s' ∧ s'.WF := by
  intro x h;obtain ⟨_, rfl⟩ := Prod.mk.inj (Option.some.inj h); exact ⟨.refl _, hw⟩
 have new_ : ∀ {x : Value} {o : AObj}, some (x, s.new o) = some (v, s') → Grow s s' ∧ s'.WF := by
  intro x o h;obtain ⟨_, rfl⟩ := Prod.mk.inj (Option.some.inj h); exact ⟨.new s hw _, hw.new _⟩
 have unit_ : ∀ {o : Option St}, (o.map fun s' => (undef, s')) = some (v, s') → (∀ q, o = some q → Grow s q ∧ q.WF) → Grow s s' ∧ s'.WF := by
  intro o h hq;rw [Option.map_eq_some_iff] at h;obtain ⟨q, hq', e⟩ := h;obtain ⟨_, rfl⟩ := Prod.mk.inj e; exact hq _ hq'
 unfold Z2m at h;split at h
 ·exact refl_ h
 ·exact refl_ h
 ·split at h
  ·exact refl_ h
  ·cases h
 ·split at h
  ·exact new_ h
  ·cases h
 ·exact new_ h
 ·exact pure_ h
 ·exact Grow.buildSlice h hw
 ·exact pure_ h
 ·exact unit_ h fun q hq => Grow.store hq hw
 ·split at h <;> first | exact refl_ h | cases h | (split at h <;> first | exact refl_ h | cases h)
 ·exact pure_ h
 ·exact pure_ h
 ·exact Grow.conv h hw
 ·split at h <;> first | exact refl_ h | cases h
 ·split at h <;> first | exact refl_ h | cases h
 ·split at h
  ·exact new_ h
  ·split at h <;> first | exact new_ h | cases h
  ·cases h
 ·exact Grow.makeSlice h hw
 ·exact pure_ h
 ·exact pure_ h
 ·exact pure_ h
 ·exact pure_ h
 ·exact pure_ h
 ·exact pure_ h
 ·exact unit_ h fun q hq => Grow.update hq hw
 ·exact unit_ h fun q hq => Grow.update hq hw
 ·exact Grow.mapEntry h hw
 ·exact unit_ h fun q hq => Grow.entryStore hq hw
 ·exact Grow.range h hw
 ·exact pure_ h
 ·exact pure_ h
 ·split at h
  ·exact pure_ h
  ·cases h
 ·exact Grow.builtin h hw
 ·cases h
theorem Grow.next {s s' : St} {it : Value} {isS : Bool} {l : List (Value × St)} {v : Value} (h : nextV s it isS = some l) (hm : (v, s') ∈ l) (hw : s.WF) : Grow s s' ∧ s'.WF := by
 unfold nextV at h;split at h
 ·split at h
  ·rename_i hg;split at h
   ·obtain rfl := Option.some.inj h;simp at hm
    obtain ⟨_, rfl⟩ := hm;exact ⟨.set (.inl Z0v), hw.set hg⟩
   ·obtain rfl := Option.some.inj h;simp at hm
    obtain ⟨_, rfl⟩ := hm;exact ⟨.refl _, hw⟩
  ·obtain rfl := Option.some.inj h;simp at hm
   obtain ⟨_, rfl⟩ := hm;exact ⟨.refl _, hw⟩
  ·rename_i hg;split at h
   ·split at h
    ·cases h
    ·obtain rfl := Option.some.inj h;rw [List.mem_append] at hm;rcases hm with hm | hm
     ·split at hm
      ·simp at hm
       obtain ⟨_, rfl⟩ := hm;exact ⟨.refl _, hw⟩
      ·cases hm
     ·rw [List.mem_map] at hm;obtain ⟨e, _, he⟩ := hm;obtain ⟨_, rfl⟩ := Prod.mk.inj he;exact ⟨.set (.inl Z0v), hw.set hg⟩
   ·cases h
  ·cases h
 ·cases h
theorem has_list {α : Type} {l : List α} {a : α} (h : a ∈ l) : (M.ofList l).Has a := by
  match l, h with
  | [b], h =>
    obtain rfl := List.mem_singleton.1 h;exact .ret _
  | b :: c :: l, h =>
    obtain ⟨i, hi, e⟩ := List.getElem_of_mem h;unfold M.ofList;refine .ask (i := i) hi ?_;rw [List.getElem?_eq_getElem hi, e];exact .ret _
theorem has_ofList {α : Type} {l : List α} {a : α} (h : (M.ofList l).Has a) : a ∈ l := by
  unfold M.ofList at h;split at h
  · cases h
  · cases h; simp
  · cases h with
    | ask hi h =>
      dsimp only at h;split at h
      · rename_i x hx
        cases h;exact List.mem_of_getElem? hx
      · cases h
theorem has_ofOption {α : Type} {o : Option α} {a : α} (h : (M.ofOption o).Has a) : o = some a := by
 cases o with
 | none => cases h
 | some x => cases h; rfl
theorem has_bind {α β : Type} {f : α → M β} {b : β} {m : M α} (h : (m.bind f).Has b) : ∃ a, m.Has a ∧ (f a).Has b := by
  induction m with
  | ret a => exact ⟨a, .ret a, h⟩
  | fail => cases h
  | ask n k ih =>
    have h' : (M.ask n fun i => (k i).bind f).Has b := h;generalize hq : (M.ask n fun i => (k i).bind f) = q at h'
    cases h' with
    | ret a => cases hq
    | ask hi hx =>
      cases hq;obtain ⟨a, h1, h2⟩ := ih _ hx;exact ⟨a, .ask hi h1, h2⟩
def RecGrow (rc : Rec) : Prop := ∀ t s, s.WF → ∀ x, (rc t s).Has x → Grow s x.2 ∧ x.2.WF
theorem grow_oneOp {rc : Rec} (hr : RecGrow rc) {e : Env} {s : St} {o : Op} (hw : s.WF) {x : Value × St} (h : (oneOp C rc e s o).Has x) : Grow s x.2 ∧ x.2.WF := by
 unfold oneOp at h;split at h
 ·split at h
  ·have h := has_ofList h;obtain ⟨b, _, rfl⟩ := List.mem_map.1 h;exact ⟨.refl _, hw⟩
  ·exact Grow.op (has_ofOption h) hw
 ·exact Grow.builtin (has_ofOption h) hw
 ·split at h
  ·unfold callT at h;split at h
   ·cases h;exact ⟨.refl _, hw⟩
   ·obtain ⟨a, h1, h2⟩ := has_bind h;have := hr _ _ hw _ h1;unfold valOnly at h2;split at h2
    ·cases h2; exact this
    ·cases h2
  ·cases h
 ·split at h
  ·rename_i l hl;exact Grow.next hl (has_ofList h) hw
  ·cases h
 ·exact Grow.op (has_ofOption h) hw
theorem grow_execOps {rc : Rec} (hr : RecGrow rc) {ops : Array Oper} : ∀ (l : List Oper) (e : Env) (s : St), s.WF → ∀ x, (execOps C rc ops l e s).Has x → Grow s x.2 ∧ x.2.WF
  | [], e, s, hw, x, h => by cases h; exact ⟨.refl _, hw⟩
  | o :: r, e, s, hw, x, h => by
    unfold execOps at h;split at h
    · obtain ⟨a, h1, h2⟩ := has_bind h
      have g1 := grow_oneOp hr hw h1;have g2 := grow_execOps hr r _ _ g1.2 x h2;exact ⟨g1.1.trans g2.1, g2.2⟩
    · exact grow_execOps hr r _ _ hw x h
theorem grow_execDraw {rc : Rec} (hr : RecGrow rc) {ops : Array Oper} {ms : Array Nat} : ∀ (l : List Oper) (i : Nat) (L : Log) (e : Env) (s : St), s.WF → ∀ x, (execDraw C rc ops ms i l L e s).Has x → Grow s x.2 ∧ x.2.WF
  | [], i, L, e, s, hw, x, h => by cases h; exact ⟨.refl _, hw⟩
  | o :: r, i, L, e, s, hw, x, h => by
    unfold execDraw at h;split at h
    · split at h
      · rename_i v s' hv
        have g1 := grow_oneOp (C := C) hr hw (x := (v, s')) (by rw [hv]; exact .ret _);have fin : ∀ L' e', (execDraw C rc ops ms (i + 1) r L' e' s').Has x → Grow s x.2 ∧ x.2.WF := fun L' e' hx =>
          let g2 := grow_execDraw hr r _ _ _ _ g1.2 x hx
          ⟨g1.1.trans g2.1, g2.2⟩
        split at h
        · exact fin _ _ h
        · exact fin _ _ h
        · split at h
          · exact fin _ _ h
          · cases h
        · split at h
          · exact fin _ _ h
          · cases h
      · cases h
    · exact grow_execDraw hr r _ _ _ _ hw x h
theorem grow_loopEnd {l : Nat} {e : Env} {y : Res × St} (hw : y.2.WF) {x : Out × Env × St} (h : (loopEnd l e y).Has x) : Grow y.2 x.2.2 ∧ x.2.2.WF := by
 unfold loopEnd at h;split at h
 ·split at h
  ·rename_i lp hg;split at h
   ·cases h
   ·split at h <;> first
    | (cases h; exact ⟨.set (.inr trivial), hw.set hg⟩)
    | cases h
  ·cases h
 ·cases h
theorem grow_execC {rc : Rec} (hr : RecGrow rc) {fid : FuncId} : ∀ (c : Code) (e : Env) (s : St), s.WF → ∀ x, (execC C rc fid c e s).Has x → Grow s x.2.2 ∧ x.2.2.WF := by
  intro c;induction c with
  | skip => intro e s hw x h; cases h; exact ⟨.refl _, hw⟩
  | label l => intro e s hw x h; cases h; exact ⟨.refl _, hw⟩
  | region id ops d =>
    intro e s hw x h;unfold execC at h;obtain ⟨a, h1, h2⟩ := has_bind h;cases h2;cases d with
    | true => exact grow_execDraw hr _ _ _ _ _ hw a h1
    | false => exact grow_execOps hr _ _ _ hw a h1
  | seq a b iha ihb =>
    intro e s hw x h;unfold execC at h;obtain ⟨y, h1, h2⟩ := has_bind h;have g1 := iha e s hw y h1;obtain ⟨o, e1, s1⟩ := y;cases o with
    | normal =>
      have g2 := ihb _ _ g1.2 x h2;exact ⟨g1.1.trans g2.1, g2.2⟩
    | exit id => cases h2; exact g1
    | ret => cases h2; exact g1
  | cond c a b iha ihb =>
    intro e s hw x h;unfold execC at h;split at h
    · exact iha _ _ hw x h
    · exact ihb _ _ hw x h
    · cases h
  | block id c ih =>
    intro e s hw x h;unfold execC at h;obtain ⟨y, h1, h2⟩ := has_bind h;have g1 := ih e s hw y h1;obtain ⟨o, e1, s1⟩ := y;cases o <;> (cases h2; exact g1)
  | loop c ih =>
    intro e s hw x h;unfold execC at h;obtain ⟨y, h1, h2⟩ := has_bind h;have g1 := ih e s hw y h1;obtain ⟨o, e1, s1⟩ := y;cases o with
    | normal =>
      obtain ⟨z, h3, h4⟩ := has_bind h2;have g2 := hr _ _ g1.2 z h3;unfold outOf at h4;split at h4
      · cases h4; exact ⟨g1.1.trans g2.1, g2.2⟩
      · cases h4
    | exit id => cases h2; exact g1
    | ret => cases h2; exact g1
  | rangeFunc f ps a b iha ihb =>
    intro e s hw x h;unfold execC at h;split at h
    · cases h
    · obtain ⟨y, h1, h2⟩ := has_bind h
      have g1 := hr _ _ (hw.new _) y h1;have g2 := grow_loopEnd g1.2 h2;exact ⟨((Grow.new s hw _).trans g1.1).trans g2.1, g2.2⟩
  | exit id => intro e s hw x h; cases h; exact ⟨.refl _, hw⟩
  | scope c ih => intro e s hw x h; exact ih e s hw x h
  | goto l => intro e s hw x h; cases h
  | ret => intro e s hw x h; cases h; exact ⟨.refl _, hw⟩
  | refuse why => intro e s hw x h; cases h
theorem grow_istep {rc : Rec} (hr : RecGrow rc) : RecGrow (istep C rc) := by
    intro t s hw x h;unfold istep at h;cases t with
    | code fid c e =>
      obtain ⟨y, h1, h2⟩ := has_bind h;cases h2;exact grow_execC hr c e s hw y h1
    | call f args =>
      simp only at h;split at h
      · split at h
        · obtain ⟨y, h1, h2⟩ := has_bind h
          have g := grow_execC hr _ _ _ hw y h1;unfold callEnd at h2;split at h2
          · cases h2
          · split at h2
            · cases h2; exact g
            · cases h2
        · cases h
      · cases h
    | round l args =>
      simp only at h;split at h
      · split at h
        · obtain ⟨y, h1, h2⟩ := has_bind h
          have g := grow_execC hr _ _ _ hw y h1;unfold roundBody at h2;split at h2
          · rename_i s1
            split at h2
            · rename_i lp1 hg
              split at h2
              · obtain ⟨z, h3, h4⟩ := has_bind h2
                have g0 : Grow s1 (s1.set l (.loop { lp1 with state := .busy })) := Grow.set (.inr trivial);have g1 := grow_execC hr _ _ _ (g.2.set hg) z h3;unfold roundEnd at h4;split at h4
                split at h4
                · rename_i hg2
                  cases h4;exact ⟨((g.1.trans g0).trans g1.1).trans (.set (.inr trivial)), g1.2.set hg2⟩
                · cases h4
              · cases h2
            · cases h2
          · cases h2
        · cases h
      · cases h
theorem grow_run : ∀ n, RecGrow (run C n)
 | 0 => fun t s hw x h => Z02
 | n + 1 => grow_istep (grow_run n)
end
end Go.Ai
/-
  What a call comes to: which function is entered, or which round begun, with which arguments.
-/
namespace Go.Ai
section
variable {P : Program} {C : Cfg} {K : Code → Prop} (H : CfgOk P C K) {β : Bij} {own : Nat → Option Nat} {s : St} {w : World}
def CallAs (P : Program) (β : Bij) (w : World) (m : Sem Next) (t : Task) : Prop :=
 match t with
 | .call f args => ∃ args' : Array Value, VRs β args args'.toList ∧ m.run P w = (callFunc f args').run P w
 | .round l args => ∃ (l' : Nat) (args' : Array Value), β.obj l = some l' ∧ VRs β args args'.toList ∧ m.run P w = (Instr.yield l' args').run P w
 | .code _ _ _ => False
theorem value_sim {f f' : Value} {args : List Value} {args' : Array Value} {t : Task} (hf : VR β f f') (ha : VRs β args args'.toList) (ht : callValue f args = some t) :
    CallAs P β w (do let d ← Deferred.ofValue f' args'; invoke d.target d.args) t := by
  unfold callValue at ht;split at ht
  · rename_i g first captured
    obtain rfl := Option.some.inj ht;cases hf with
    | func h1 h2 h3 =>
      rename_i first' captured'
      cases h1 with
      | same =>
        refine ⟨first' ++ args' ++ captured', ?_, ?_⟩
        · simpa using (h2.append (ha.append h3))
        · simp [Deferred.ofValue, invoke]
  · rename_i l first captured
    obtain rfl := Option.some.inj ht;cases hf with
    | func h1 h2 h3 =>
      rename_i first' captured'
      cases h1 with
      | same _ h => exact absurd rfl (h l)
      | yield h =>
        rename_i l';refine ⟨l', first' ++ args', h, ?_, ?_⟩
        · simpa using h2.append ha
        · simp [Deferred.ofValue, invoke]
  · cases ht
include H in
theorem method_sim {t : TypeId} {v' : Value} {name : String} {f : FuncId} (hm : methodV C t name = some f) (n : Nat) : (method (n + 1) t v' name).run P w = .ok (f, v') w := by
 unfold methodV at hm
 split at hm
 ·rename_i ty hty
  obtain ⟨i, hi, _, _, _, _, hms, _⟩ := run_info (w := w) H hty
  split at hm
  ·rename_i nm sg path g ptr hfind
   split at hm
   ·rename_i hp
    have hpl : path.toList = [] := by
     have : path = #[] := by simpa using hp
     simp [this]
    have hu := run_under (w := w) H hty
    simp only [method, Sem.run_bind, hi, Result.andThen_ok, hms, hfind, hpl, follow, Sem.run_pure]
    split at hm
    ·rename_i hd
     obtain rfl := Option.some.inj hm
     simp [receiverAt, hu, hd, Place.get]
    ·cases hm
    ·cases hm
    ·rename_i hnp _
     obtain rfl := Option.some.inj hm
     simp only [receiverAt, Sem.run_bind, hu, Result.andThen_ok]
     cases hd : ty.desc <;> first
      | rfl
      | exact absurd hd (hnp _)
   ·cases hm
  ·cases hm
 ·cases hm
include H in
theorem callMethod_sim {t : TypeId} {v' : Value} {name : String} {f : FuncId} (hm : methodV C t name = some f) (args' : Array Value) :
  (callMethod (.iface t v') name args').run P w = (callFunc f (#[v'] ++ args')).run P w := by
 simp only [callMethod, Sem.run_bind, run_program, Result.andThen_ok]
 rw [show P.types.size + Made.depth = (P.types.size + Made.depth - 1) + 1 from by simp [Made.depth]]
 rw [method_sim H hm]
 rfl
theorem extract_tail (x : Value) (l : List Value) {a : Array Value} (h : a.toList = x :: l) : a[0]? = some x ∧ (a.extract 1 a.size).toList = l := by
 cases a with
 | mk a => simp at h; subst h; simp
include H in
theorem target_sim {ρ ρ' : Operand → Value} {ok : Operand → Bool} (hρ : ∀ x, ok x = true → VR β (ρ x) (ρ' x)) {c : Call} (hok : c.operands.all ok = true) {ty : TypeId} {t : Task} (ht : target C s ρ c = some t) :
  CallAs P β w (do let d ← resolve ρ' c ty; invoke d.target d.args) t := by
 obtain ⟨callee, args, ats⟩ := c
 unfold target at ht
 simp only at ht
 have hargs : args.all ok = true := by
  simp only [Call.operands] at hok
  rw [Array.all_append, Bool.and_eq_true] at hok
  exact hok.2
 have ha : VRs β (args.toList.map ρ) (args.map ρ').toList := by
  simpa using vrs_map hρ (l := args.toList) (by simpa using hargs)
 split at ht
 ·cases ht
 ·rename_i f
  have hfok : ok f = true := by
   simp only [Call.operands] at hok
   rw [Array.all_append, Bool.and_eq_true] at hok
   simpa using hok.1
  have hf := hρ f hfok
  split at ht
  ·rename_i g first captured hg
   exact value_sim (args' := args.map ρ') hf ha (by unfold callValue; rw [hg]; exact ht)
  ·rename_i l first captured hg
   exact value_sim (args' := args.map ρ') hf ha (by unfold callValue; rw [hg]; exact ht)
  ·rename_i tt name first captured hg
   rw [hg] at hf
   generalize hv : ρ' f = fv at hf
   cases hf with
   | func h1 h2 h3 =>
   rename_i first' captured'
   cases h1 with
   | same =>
   have hall := h2.append ha
   split at ht
   ·rename_i r rest hr
    rw [hr] at hall
    obtain ⟨r', rest', e, hr', hrest⟩ := hall.cons_inv
    obtain ⟨e1, e2⟩ := extract_tail (a := first' ++ args.map ρ') r' rest' (by simpa using e)
    generalize hA : first' ++ args.map ρ' = A at e1 e2
    split at ht
    ·rename_i u v hty
     rw [Option.map_eq_some_iff] at ht
     obtain ⟨g, hm, rfl⟩ := ht
     cases hr' with
     | @iface _ _ v' hv' =>
     refine ⟨#[v'] ++ A.extract 1 A.size, ?_, ?_⟩
     ·rw [Array.toList_append, e2]; exact VRs.cons hv' hrest
     ·have hu := run_under (w := w) H hty
      simp only [resolve, hv, Deferred.ofValue, Sem.run_bind, Sem.run_pure, Result.andThen_ok, invoke, hA, e1, hu]
      exact callMethod_sim H hm _
    ·cases ht
    ·rename_i ty' hni hty _
     rw [Option.map_eq_some_iff] at ht
     obtain ⟨g, hm, rfl⟩ := ht
     refine ⟨#[r'] ++ A.extract 1 A.size, ?_, ?_⟩
     ·rw [Array.toList_append, e2]; exact VRs.cons hr' hrest
     ·have hu := run_under (w := w) H hty
      simp only [resolve, hv, Deferred.ofValue, Sem.run_bind, Sem.run_pure, Result.andThen_ok, invoke, hA, e1, hu]
      have hd : ∀ ms, ty'.desc ≠ .interface ms := by
       intro ms hms
       cases ty'
       simp only at hms
       subst hms
       exact hni _ _ _ _ _ _ rfl
      split
      ·rename_i ms hms; exact absurd hms (hd ms)
      ·exact callMethod_sim H hm _
    ·cases ht
   ·cases ht
  ·rename_i name first captured hg
   rw [hg] at hf
   generalize hv : ρ' f = fv at hf
   cases hf with
   | func h1 h2 h3 =>
   rename_i first' captured'
   cases h1 with
   | same =>
   have hall := h2.append ha
   split at ht
   ·rename_i u v rest hr
    rw [hr] at hall
    rw [Option.map_eq_some_iff] at ht
    obtain ⟨g, hm, rfl⟩ := ht
    obtain ⟨r', rest', e, hr', hrest⟩ := hall.cons_inv
    obtain ⟨e1, e2⟩ := extract_tail (a := first' ++ args.map ρ') r' rest' (by simpa using e)
    generalize hA : first' ++ args.map ρ' = A at e1 e2
    cases hr' with
    | @iface _ _ v' hv' =>
    refine ⟨#[v'] ++ A.extract 1 A.size, ?_, ?_⟩
    ·rw [Array.toList_append, e2]; exact VRs.cons hv' hrest
    ·simp only [resolve, hv, Deferred.ofValue, Sem.run_bind, Sem.run_pure, Result.andThen_ok, invoke, hA, e1]
     exact callMethod_sim H hm _
   ·cases ht
  ·cases ht
 ·rename_i recv name
  have hrok : ok recv = true := by
   simp only [Call.operands] at hok
   rw [Array.all_append, Bool.and_eq_true] at hok
   simpa using hok.1
  have hr := hρ recv hrok
  split at ht
  ·rename_i u v hv
   rw [hv] at hr
   rw [Option.map_eq_some_iff] at ht
   obtain ⟨g, hm, rfl⟩ := ht
   generalize hv' : ρ' recv = rv at hr
   cases hr with
   | @iface _ _ v' hvv =>
   refine ⟨#[v'] ++ args.map ρ', ?_, ?_⟩
   ·simpa using VRs.cons hvv (by simpa using ha)
   ·have e : (#[Value.iface u v'] ++ args.map ρ').extract 1 (#[Value.iface u v'] ++ args.map ρ').size = args.map ρ' := by
     apply Array.toList_inj.1
     simp [List.take_of_length_le]
    rw [show (do let d ← resolve ρ' { callee := .invoke recv name, args := args, argTypes := ats } ty; invoke d.target d.args) = invoke (.fn (.method name) #[]) (#[ρ' recv] ++ args.map ρ') from rfl, hv']
    simp only [invoke]
    rw [e]
    have e1 := (extract_tail (a := #[Value.iface u v'] ++ args.map ρ') (.iface u v') (args.map ρ').toList (by rw [Array.toList_append]; rfl)).1
    rw [e1]
    exact callMethod_sim H hm _
  ·cases ht
include H in
theorem callFunc_sim {f : FuncId} {fn : Func} {c : Code} (hf : C.fn f = some fn) (hb : fn.body = some c) (args : Array Value) : (callFunc f args).run P w = .ok (.enter f args) w := by
 obtain ⟨h1, h2, _⟩ := H.fn f fn hf
 simp [callFunc, h1, h2, hb]
theorem exec_call {ρ' : Operand → Value} {o : Oper} {c : Call} (ho : o.op = .call c) : execOp ρ' o = (do let d ← resolve ρ' c o.type; invoke d.target d.args) := by
 simp only [execOp, ho]
theorem loop_at (hs : SR K β own s.get w) {l l' : Nat} {lp : ALoop} (hl : β.obj l = some l') (hg : s.get l = some (.loop lp)) : ∃ lp', w.heap[l']? = some (.loop lp') ∧ LoopR β K lp lp' := (hs.obj l l' hl).2.2 _ hg
theorem run_getLoop {l : Nat} {lp : Loop} (h : w.heap[l]? = some (.loop lp)) : (Instr.getLoop l).run P w = .ok lp w := by
 simp [Instr.getLoop, run_getObj h (fun c t fr => Z0u)]
theorem yield_sim {l' : Nat} {lp' : Loop} (h : w.heap[l']? = some (.loop lp')) {args' : Array Value} (hn : args'.size = lp'.params.size) :
  (Instr.yield l' args').run P w = .ok (.round l' lp'.fn ((lp'.params.zip args').foldl (fun tmps (t, a) => tmps.setIfInBounds t a) lp'.tmps) lp'.assign lp'.body) w := by
 simp only [Instr.yield, Sem.run_bind, run_getLoop h, Result.andThen_ok];rw [if_neg (by simp [hn])];simp
theorem er_putA : ∀ (ts : List Tmp) (args args' : List Value) (e : Env) (t : Array Value), VRs β args args' → ER β e t →
    ER β (Env.putA ts args e) ((ts.zip args').foldl (fun tmps (x : Tmp × Value) => tmps.setIfInBounds x.1 x.2) t)
  | [], _, _, e, t, _, h => by simpa [Env.putA] using h
  | _ :: _, _, _, e, t, .nil, h => by simpa [Env.putA] using h
  | x :: ts, _, _, e, t, .cons hv hr, h => by
    simp only [Env.putA, List.zip_cons_cons, List.foldl_cons];exact er_putA ts _ _ _ _ hr (h.put x hv)
end
end Go.Ai
/-
  One operation, calls with it; the operations of a region in the text's order.
-/
namespace Go.Ai
def Glob1 (β : Bij) (G : Nat) : Prop := ∀ g, g < gl G → ∃ L, β.arr g 1 = some L ∧ L.block = g ∧ L.base = 0 ∧ L.lo = 0
structure TabB (β : Bij) (g : Nat) (tab : List Value) : Prop where
 fx : β.fix g tab.length
 ic : ∀ j v, tab[j]? = some v → β.ice g j v
def powTab : List Value := (List.range 20).map fun i => .int .u64 ((10 ^ i : Nat) : Int)
def gPow (G : Nat) : Nat := (G - 1000) % 1000
def gE1 (G : Nat) : Nat := (G - 1000) / 1000 % 1000
def gE2 (G : Nat) : Nat := (G - 1000) / 1000000 % 1000
def gMx (G : Nat) : Nat := (G - 1000) / 1000000000 % 1000
def gT (G : Nat) : Nat := (G - 1000) / 1000000000000
structure Glob (β : Bij) (G : Nat) : Prop where
 one : Glob1 β G
 tab : 1000 ≤ G → TabB β (gPow G) powTab
 err : 1000 ≤ G → ∀ b, b + 1 = gE1 G ∨ b + 1 = gE2 G → β.ice b 0 (.iface (gT G) (.chan (some 0)))
 mx : 1000 ≤ G → ∀ b, b + 1 = gMx G → ∃ m, β.ice b 0 (.int .i64 m)
theorem Glob.mono {β β' : Bij} {G : Nat} (h : Glob β G) (hl : β.le β') : Glob β' G where
 one g hg := by
  obtain ⟨L, h1, h2⟩ := h.one g hg;exact ⟨L, hl.2 _ _ _ h1, h2⟩
 tab hg := ⟨hl.fix _ _ (h.tab hg).fx, fun j v hv => hl.ice _ _ _ ((h.tab hg).ic j v hv)⟩
 err hg b hb := hl.ice _ _ _ (h.err hg b hb)
 mx hg b hb := let ⟨m, q⟩ := h.mx hg b hb; ⟨m, hl.ice _ _ _ q⟩
theorem glob_none {β : Bij} : Glob β 0 := ⟨fun g hg => absurd hg (Nat.not_lt_zero g), fun h => absurd h Zj, fun h => absurd h Zj, fun h => absurd h Zj⟩
theorem Glob.ptr {β : Bij} {G g : Nat} (h : Glob β G) (hg : g < gl G) : VR β (.pointer (some ⟨g, 0, some 1⟩)) (.pointer (some ⟨g, 0, none⟩)) := by
 obtain ⟨L, h1, h2, h3, h4⟩ := h.one g hg;have := VR.ptrArr (β := β) (o := 0) h1 Z4;rw [h2, h3, h4] at this;exact this
def notDefer : Op → Bool
 | .defer _ => false
 | _ => true
theorem notDefer_ne {o : Op} (h : notDefer o = true) (c : Call) : o ≠ .defer c := by rintro rfl; cases h
theorem all_ofOption {α : Type} {Q : α → Prop} {o : Option α} (h : (M.ofOption o).All Q) : ∃ a, o = some a ∧ Q a := by
 cases o with
 | none => exact h.elim
 | some a => exact ⟨a, rfl, h⟩
section
variable {P : Program} {C : Cfg} {K : Code → Prop} {β : Bij} {own : Nat → Option Nat} {s : St} {w : World} {G : Nat}
def CallsTo (P : Program) (cs : List Frame) (f : FuncId) (args : Array Value) (w : World) (v : Value) (w' : World) : Prop :=
 ∃ fr, Steps P (lone (Frame.enter P f args .normal) cs w) (lone fr cs w') ∧ fr.fn = f ∧ fr.leaving P w' (.returned v)
theorem CallsTo.steps {f : FuncId} {args : Array Value} {w w' : World} {v : Value} {c : Frame} {cs : List Frame} (h : CallsTo P (c :: cs) f args w v w') :
  Steps P (lone (Frame.enter P f args .normal) (c :: cs) w) (lone (c.finish v) cs w') := by
 obtain ⟨fr, h1, _, h2⟩ := h;exact h1.trans (.one (step_leave_returned h2))
def roundTmps (lp : Loop) (args : Array Value) : Array Value := (lp.params.zip args).foldl (fun tmps (t, a) => tmps.setIfInBounds t a) lp.tmps
def CallSim (P : Program) (K : Code → Prop) (G : Nat) (rc : Rec) : Prop :=
 ∀ (β : Bij) (own : Nat → Option Nat) (s : St) (w : World) (f : FuncId) (args : List Value) (args' : Array Value), SR K β own s.get w → s.WF → Glob β G → VRs β args args'.toList →
  (rc (.call f args) s).All (fun x => Free β s x.2) →
  ∀ cs : List Frame, ∃ v s' β' own' w' v', (rc (.call f args) s).Has (.val v, s') ∧ Ext β own s w β' own' s' w' ∧ SR K β' own' s'.get w' ∧ VR β' v v' ∧
   (callFunc f args').run P w = .ok (.enter f args') w ∧ CallsTo P cs f args' w v' w'
def RoundSim (P : Program) (K : Code → Prop) (G : Nat) (rc : Rec) : Prop :=
 ∀ (β : Bij) (own : Nat → Option Nat) (s : St) (w : World) (l l' : Nat) (args : List Value) (args' : Array Value), SR K β own s.get w → s.WF → Glob β G → VRs β args args'.toList → β.obj l = some l' →
  (rc (.round l args) s).All (fun x => Free β s x.2) →
  ∀ (c : Frame) (cs : List Frame), ∃ v s' β' own' w' v' lp', (rc (.round l args) s).Has (.val v, s') ∧ Ext β own s w β' own' s' w' ∧ SR K β' own' s'.get w' ∧ VR β' v v' ∧
   w.heap[l']? = some (.loop lp') ∧ args'.size = lp'.params.size ∧
   Steps P (lone (Frame.round l' lp'.fn (roundTmps lp' args') lp'.assign lp'.body .normal) (c :: cs) w) (lone (c.finish v') cs w')
def OpWay (P : Program) (o : Oper) (t : Array Value) (w : World) (v : Value) (w' : World) : Prop :=
 ∀ (b : Frame) (ds : List Deferred) (k : List Item) (cs : List Frame) (ops : Array Oper) (i : Nat) (rest : List Nat), ops[i]? = some o → Region.wanted o (yielded ops t) = true →
  Steps P (lone (fgo b t ds (.inRegion ops (i :: rest) :: k)) cs w) (lone (fgo b (dstAt t o.dst v) ds (.inRegion ops rest :: k)) cs w')
theorem OpWay.of_run {o : Oper} {t : Array Value} {w w' : World} {v : Value} (hd : notDefer o.op = true)
  (h : (execOp (feval t) o).run P w = .ok (.value v) w' ∨ ((execOp (feval t) o).run P w = .ok .skip w' ∧ v = undef)) : OpWay P o t w v w' :=
 fun _ _ _ _ _ _ _ ho hw => .one (st_op ho hw (notDefer_ne hd) h)
def OneSim (P : Program) (K : Code → Prop) (β : Bij) (own : Nat → Option Nat) (s : St) (w : World) (m : M (Value × St)) (o : Oper) (t : Array Value) : Prop :=
 ∀ (b : Frame) (ds : List Deferred) (k : List Item) (cs : List Frame) (ops : Array Oper) (i : Nat) (rest : List Nat), ops[i]? = some o → Region.wanted o (yielded ops t) = true →
 ∃ v s' β' own' w' v', m.Has (v, s') ∧ Ext β own s w β' own' s' w' ∧ SR K β' own' s'.get w' ∧ VR β' v v' ∧
  Steps P (lone (fgo b t ds (.inRegion ops (i :: rest) :: k)) cs w) (lone (fgo b (dstAt t o.dst v') ds (.inRegion ops rest :: k)) cs w')
theorem OneSim.ofOp {o : Oper} {t : Array Value} {v : Value} {s' : St} {m : M (Value × St)} (hm : m.Has (v, s')) (hd : notDefer o.op = true) (h : OpSim P K β own s w (execOp (feval t) o) v s') : OneSim P K β own s w m o t := by
 obtain ⟨β', own', w', v', h1, h2, h3, h4⟩ := h;exact fun b ds k cs ops i rest ho hwt => ⟨v, s', β', own', w', v', hm, h2, h3, h4, OpWay.of_run hd h1 b ds k cs ops i rest ho hwt⟩
theorem find_add64 (fn : Func) (h : fn.name = "math/bits.Add64") (h2 : fn.origin = "") : Extern.findNext fn = none ∧ Extern.find fn = some add64Entry := by
 obtain ⟨⟩ := fn;simp only at h h2;subst h;subst h2;exact ⟨Z3, Z3⟩
theorem add64_sim (H : CfgOk P C K) {f : FuncId} {fn : Func} (hfn : C.fn f = some fn) (hb : fn.body = none) (hname : fn.name = "math/bits.Add64" ∧ fn.origin = "") {args : List Value} {v : Value} (hx : add64V args = some v) {args' : Array Value} (ha : VRs β args args'.toList) (w : World) :
    VR β v v ∧ (callFunc f args').run P w = .ok (.value v) w := by
  obtain ⟨h1, h2⟩ := find_add64 fn hname.1 hname.2;have hrun := run_callFunc_extern (P := P) (H.fn f fn hfn).1 Z25 (by rw [hb]; rfl) h1 h2 args' w;unfold add64V at hx;split at hx
  · rename_i x y c
    split at hx
    · rename_i hc
      cases hx;obtain ⟨l⟩ := args';simp only at ha;cases ha with
      | cons a1 ha => cases ha with
        | cons a2 ha => cases ha with
          | cons a3 ha =>
            cases ha;cases a1; cases a2; cases a3;refine ⟨.tuple (.cons (.int _ _) (.cons (.int _ _) .nil)), ?_⟩;rw [hrun, run_add64 x y c hc.1 hc.2.1 hc.2.2.1 hc.2.2.2 w];rfl
    · cases hx
  · cases hx
theorem find_noEsc (fn : Func) (h : fn.name = "internal/abi.NoEscape") (h2 : fn.origin = "") : Extern.findNext fn = none ∧ Extern.find fn = some Extern.AbiNoEscape.same := by
 obtain ⟨⟩ := fn;simp only at h h2;subst h;subst h2;exact ⟨Z3, Z3⟩
theorem noEsc_sim (H : CfgOk P C K) {f : FuncId} {fn : Func} (hfn : C.fn f = some fn) (hb : fn.body = none) (hname : fn.name = "internal/abi.NoEscape" ∧ fn.origin = "") {args : List Value} {v : Value} (hx : oneV args = some v) {args' : Array Value} (ha : VRs β args args'.toList) (w : World) :
    ∃ v', VR β v v' ∧ (callFunc f args').run P w = .ok (.value v') w := by
  obtain ⟨h1, h2⟩ := find_noEsc fn hname.1 hname.2;have hrun := run_callFunc_extern (P := P) (H.fn f fn hfn).1 Z25 (by rw [hb]; rfl) h1 h2 args' w;unfold oneV at hx;split at hx
  · rename_i x
    cases hx;obtain ⟨l⟩ := args';simp only at ha;cases ha with
    | cons a1 ha =>
      cases ha;exact ⟨_, a1, by rw [hrun]; rfl⟩
  · cases hx
theorem find_cntS (fn : Func) (h : fn.name = "internal/bytealg.CountString") (h2 : fn.origin = "") : Extern.findNext fn = none ∧ Extern.find fn = some Extern.BytealgCount.count := by
 obtain ⟨⟩ := fn;simp only at h h2;subst h;subst h2;exact ⟨Z3, Z3⟩
theorem cntS_sim (H : CfgOk P C K) {f : FuncId} {fn : Func} (hfn : C.fn f = some fn) (hb : fn.body = none) (hname : fn.name = "internal/bytealg.CountString" ∧ fn.origin = "") {args : List Value} {v : Value} (hx : countV args = some v) {args' : Array Value} (ha : VRs β args args'.toList) (w : World) :
    ∃ v', VR β v v' ∧ (callFunc f args').run P w = .ok (.value v') w := by
  obtain ⟨h1, h2⟩ := find_cntS fn hname.1 hname.2;have hrun := run_callFunc_extern (P := P) (H.fn f fn hfn).1 Z25 (by rw [hb]; rfl) h1 h2 args' w;unfold countV at hx;split at hx
  · rename_i b c
    obtain ⟨l⟩ := args';simp only at ha;cases ha with
    | cons a1 ha =>
      cases ha with
      | cons a2 ha =>
        cases ha;cases a1; cases a2;cases hx;exact ⟨_, .int _ _, by rw [hrun]; rfl⟩
  · cases hx
theorem find_idxS (fn : Func) (h : fn.name = "internal/bytealg.IndexByteString") (h2 : fn.origin = "") : Extern.findNext fn = none ∧ Extern.find fn = some Extern.BytealgIndexByte.indexByte := by
 obtain ⟨⟩ := fn;simp only at h h2;subst h;subst h2;exact ⟨Z3, Z3⟩
theorem idxS_sim (H : CfgOk P C K) {f : FuncId} {fn : Func} (hfn : C.fn f = some fn) (hb : fn.body = none) (hname : fn.name = "internal/bytealg.IndexByteString" ∧ fn.origin = "") {args : List Value} {v : Value} (hx : findV args = some v) {args' : Array Value} (ha : VRs β args args'.toList) (w : World) :
    ∃ v', VR β v v' ∧ (callFunc f args').run P w = .ok (.value v') w := by
  obtain ⟨h1, h2⟩ := find_idxS fn hname.1 hname.2;have hrun := run_callFunc_extern (P := P) (H.fn f fn hfn).1 Z25 (by rw [hb]; rfl) h1 h2 args' w;unfold findV at hx;split at hx
  · rename_i b c
    obtain ⟨l⟩ := args';simp only at ha;cases ha with
    | cons a1 ha =>
      cases ha with
      | cons a2 ha =>
        cases ha;cases a1; cases a2;cases hq : (List.range b.size).find? fun i => b[i]! == c.toNat.toUInt8 with
        | some i =>
          rw [hq] at hx;cases hx;refine ⟨_, .int _ _, ?_⟩;have hd : Extern.BytealgIndexByte.indexByte #[.string b, .int .u8 c] = (match (List.range b.size).find? (fun i => b[i]! == c.toNat.toUInt8) with | some i => pure (goInt i) | none => pure (goInt (-1))) := rfl;rw [hrun, hd, hq];rfl
        | none =>
          rw [hq] at hx;cases hx;refine ⟨_, .int _ _, ?_⟩;have hd : Extern.BytealgIndexByte.indexByte #[.string b, .int .u8 c] = (match (List.range b.size).find? (fun i => b[i]! == c.toNat.toUInt8) with | some i => pure (goInt i) | none => pure (goInt (-1))) := rfl;rw [hrun, hd, hq];rfl
  · cases hx
theorem oneOp_sim (H : CfgOk P C K) {rc : Rec} (hc : CallSim P K G rc) (hr : RoundSim P K G rc) (hs : SR K β own s.get w) (hw : s.WF) (hG : Glob β G) {e : Env} {t : Array Value} {ok : Operand → Bool}
    (hρ : ∀ x, ok x = true → VR β (e.eval x) (feval t x)) {o : Oper} (hok : o.op.operands.all ok = true) (hd : notDefer o.op = true) (hf : (oneOp C rc e s o.op).All fun x => Free β s x.2) :
    OneSim P K β own s w (oneOp C rc e s o.op) o t := by
  have easy : ∀ {v : Value} {s' : St}, Z2m C e.eval s o.op = some (v, s') → oneOp C rc e s o.op = .ofOption (Z2m C e.eval s o.op) → Free β s s' → OneSim P K β own s w (oneOp C rc e s o.op) o t := by
    intro v s' hv he hfr;refine .ofOp (v := v) (s' := s') ?_ hd (evalOp_sim H hs hw hfr hρ hok hv).1;rw [he, hv];exact .ret _
  cases hop : o.op with
  | call c =>
    rw [hop] at hf hok easy;by_cases hb : ∃ b, c.callee = .builtin b
    · obtain ⟨b, hb⟩ := hb
      obtain ⟨callee, args, ats⟩ := c;simp only at hb;subst hb;obtain ⟨⟨v, s'⟩, h1, h2⟩ := all_ofOption (show (M.ofOption (builtinV C s b ats (args.toList.map e.eval))).All _ from hf);exact easy (v := v) (s' := s') h1 rfl h2
    · have he : oneOp C rc e s (.call c) = match target C s e.eval c with
          | some t => callT C rc s t
          | none => .fail := by
        unfold oneOp;split
        · rename_i heq; cases heq
        · rename_i heq
          cases heq;exact absurd ⟨_, rfl⟩ hb
        · rename_i heq
          cases heq;rfl
        · rename_i heq; cases heq
        · rename_i h1 _
          exact absurd rfl (h1 _)
      rw [he] at hf ⊢;cases ht : target C s e.eval c with
      | none => rw [ht] at hf; exact hf.elim
      | some tk =>
        rw [ht] at hf;simp only at hf ⊢;have hta0 := target_sim (P := P) (w := w) (ty := o.type) H hρ (c := c) hok ht;have hex0 : execOp (feval t) o = (do let d ← resolve (feval t) c o.type; invoke d.target d.args) := exec_call hop;unfold callT at hf ⊢;cases hx : extV C tk with
        | some v =>
          rw [hx] at hf;simp only;unfold extV at hx;split at hx
          · rename_i f args
            split at hx
            · rename_i fn hfn
              split at hx
              · cases hx
              · rename_i hbody
                split at hx
                · rename_i hname
                  obtain ⟨args', ha, hrun⟩ := hta0;have hadd := add64_sim H hfn hbody hname hx ha w;refine fun b ds k cs ops i rest ho hwt => ⟨v, s, β, own, w, v, .ret _, .refl _ _ _ _, hs, hadd.1, OpWay.of_run hd (.inl ?_) b ds k cs ops i rest ho hwt⟩
                  rw [hex0];exact hrun.trans hadd.2
                · split at hx
                  · rename_i hname
                    obtain ⟨args', ha, hrun⟩ := hta0;obtain ⟨v', hv1, hv2⟩ := noEsc_sim H hfn hbody hname hx ha w;refine fun b ds k cs ops i rest ho hwt => ⟨v, s, β, own, w, v', .ret _, .refl _ _ _ _, hs, hv1, OpWay.of_run hd (.inl ?_) b ds k cs ops i rest ho hwt⟩
                    rw [hex0];exact hrun.trans hv2
                  · split at hx
                    · rename_i hname
                      obtain ⟨args', ha, hrun⟩ := hta0;obtain ⟨v', hv1, hv2⟩ := cntS_sim H hfn hbody hname hx ha w;refine fun b ds k cs ops i rest ho hwt => ⟨v, s, β, own, w, v', .ret _, .refl _ _ _ _, hs, hv1, OpWay.of_run hd (.inl ?_) b ds k cs ops i rest ho hwt⟩
                      rw [hex0];exact hrun.trans hv2
                    · split at hx
                      · rename_i hname
                        obtain ⟨args', ha, hrun⟩ := hta0;obtain ⟨v', hv1, hv2⟩ := idxS_sim H hfn hbody hname hx ha w;refine fun b ds k cs ops i rest ho hwt => ⟨v, s, β, own, w, v', .ret _, .refl _ _ _ _, hs, hv1, OpWay.of_run hd (.inl ?_) b ds k cs ops i rest ho hwt⟩
                        rw [hex0];exact hrun.trans hv2
                      · cases hx
            · cases hx
          · cases hx
        | none =>
        rw [hx] at hf;simp only at hf ⊢;rw [M.all_bind] at hf;have hf' : (rc tk s).All fun x => Free β s x.2 := hf.mono fun x hx => by
          obtain ⟨r, s1⟩ := x;cases r with
          | out _ _ => exact hx.elim
          | val v => exact hx
        have hta := target_sim (P := P) (w := w) (ty := o.type) H hρ (c := c) hok ht;have hex : execOp (feval t) o = (do let d ← resolve (feval t) c o.type; invoke d.target d.args) := exec_call hop;cases tk with
        | code _ _ _ => exact hta.elim
        | call f args =>
          obtain ⟨args', ha, hrun⟩ := hta;intro b ds k cs ops i rest ho hwt;obtain ⟨v, s', β', own', w', v', h1, h2, h3, h4, h5, h6⟩ := hc _ _ _ _ _ _ args' hs hw hG ha hf' (fgo b t ds (.inRegion ops (i :: rest) :: k) :: cs);refine ⟨v, s', β', own', w', v', h1.bind (.ret _), h2, h3, h4, ?_⟩;rw [← hex] at hrun;refine (Steps.one (st_call ho hwt (notDefer_ne hd) (hrun.trans h5))).trans ?_;rw [← finish_op ho];exact h6.steps
        | round l args =>
          obtain ⟨l', args', hl, ha, hrun⟩ := hta;intro b ds k cs ops i rest ho hwt;obtain ⟨v, s', β', own', w', v', lp', h1, h2, h3, h4, h5, h6, h7⟩ := hr _ _ _ _ _ _ _ args' hs hw hG ha hl hf' (fgo b t ds (.inRegion ops (i :: rest) :: k)) cs;refine ⟨v, s', β', own', w', v', h1.bind (.ret _), h2, h3, h4, ?_⟩;rw [← hex] at hrun;refine (Steps.one (st_round ho hwt (notDefer_ne hd) (hrun.trans (yield_sim h5 h6)))).trans ?_;rw [← finish_op ho];exact h7
  | next it isS =>
    rw [hop] at hf hok;have hf' : (match nextV s (e.eval it) isS with | some l => M.ofList l | none => M.fail).All (fun x : Value × St => Free β s x.2) := hf;have he : oneOp C rc e s (.next it isS) = match nextV s (e.eval it) isS with | some l => M.ofList l | none => M.fail := rfl
    rw [he];cases hn : nextV s (e.eval it) isS with
    | none => rw [hn] at hf'; exact hf'.elim
    | some l =>
      have hx := hρ it (by simpa [Op.operands] using hok);obtain ⟨v, s', h1, h2, h3, β', own', w', v', q1, q2, q3, q4⟩ := next_sim (P := P) hs hw hn hx o.type;refine .ofOp (v := v) (s' := s') h1 hd ⟨β', own', w', v', .inl ?_, q2, q3, q4⟩;have hex : execOp (feval t) o = (do pure (.value (← Instr.next (feval t it) isS o.type))) := by simp only [execOp, hop]
      rw [hex];simp [q1]
  | binOp op ty x y c =>
    have he : oneOp C rc e s (.binOp op ty x y c) = match nilTok C op ty (e.eval x) (e.eval y) with
        | some l => .ofList (l.map fun b => (.bool b, s))
        | none => .ofOption (Z2m C e.eval s (.binOp op ty x y c)) := rfl
    cases hn : nilTok C op ty (e.eval x) (e.eval y) with
    | none =>
      rw [hn] at he;simp only at he;rw [← hop] at he ⊢;rw [he] at hf;obtain ⟨⟨v, s'⟩, h1, h2⟩ := all_ofOption hf;exact easy (v := v) (s' := s') h1 he h2
    | some l =>
      rw [hn] at he;simp only at he;rw [he];rw [hop] at hok;simp [Op.operands] at hok
      obtain ⟨b, hb, hrun⟩ := nilTok_sim (P := P) (w := w) (ox := x) (oy := y) H hn (hρ x hok.1) (hρ y hok.2);refine .ofOp (v := .bool b) (s' := s) (has_list (List.mem_map.2 ⟨b, hb, rfl⟩)) hd ?_;exact (OpSim.same hs hw ⟨_, hrun, .bool b⟩ (by simp only [execOp, hop])).1
  | _ =>
    have he : oneOp C rc e s o.op = .ofOption (Z2m C e.eval s o.op) := by rw [hop]; rfl
    rw [← hop];rw [he] at hf;obtain ⟨⟨v, s'⟩, h1, h2⟩ := all_ofOption hf;exact easy (v := v) (s' := s') h1 he h2
end
end Go.Ai