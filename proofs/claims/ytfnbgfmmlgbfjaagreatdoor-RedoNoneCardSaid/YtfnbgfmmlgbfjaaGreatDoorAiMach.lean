/-
  The machine's own steps, for one goroutine, in a frame or in a round of a range over a function.
-/
import Derived.Test.YtfnbgfmmlgbfjaaGreatDoorAiOps12
import Derived.Control
import Derived.Calls
namespace Go.Ai

/-- a frame that runs -/
def fgo (b : Frame) (t : Array Value) (ds : List Deferred) (k : List Item) : Frame := { fn := b.fn, tmps := t, todo := k, defers := ds, mode := .run, kind := b.kind, roundOf := b.roundOf }

section
variable {P : Program} {b : Frame} {t : Array Value} {ds : List Deferred} {k : List Item} {cs : List Frame} {w : World}

def feval (t : Array Value) : Operand → Value
  | .tmp j => t.getD j undef
  | .const v => v
  | .global g => .pointer (some ⟨g, 0, none⟩)
  | .func f => .func (.func f) #[] #[]

theorem fgo_eval (x : Operand) : (fgo b t ds k).eval x = feval t x := by cases x <;> rfl
theorem fgo_eval' : (fgo b t ds k).eval = feval t := funext fgo_eval

theorem st_skip : step P (lone (fgo b t ds (.code .skip :: k)) cs w) = .next (lone (fgo b t ds k) cs w) := step_lone_go (by simp [stepG, stepG.exec, fgo])
theorem st_label {l : Nat} : step P (lone (fgo b t ds (.code (.label l) :: k)) cs w) = .next (lone (fgo b t ds k) cs w) := step_lone_go (by simp [stepG, stepG.exec, fgo])
theorem st_inBlock {id : Nat} : step P (lone (fgo b t ds (.inBlock id :: k)) cs w) = .next (lone (fgo b t ds k) cs w) := step_lone_go (by simp [stepG, stepG.exec, fgo])
theorem st_inScope {c : Code} : step P (lone (fgo b t ds (.inScope c :: k)) cs w) = .next (lone (fgo b t ds k) cs w) := step_lone_go (by simp [stepG, stepG.exec, fgo])
theorem st_seq {x y : Code} : step P (lone (fgo b t ds (.code (.seq x y) :: k)) cs w) = .next (lone (fgo b t ds (.code x :: .code y :: k)) cs w) := step_lone_go (by simp [stepG, stepG.exec, fgo])
theorem st_cond {c : Operand} {x y : Code} {q : Bool} (h : feval t c = .bool q) : step P (lone (fgo b t ds (.code (.cond c x y) :: k)) cs w) = .next (lone (fgo b t ds (.code (if q then x else y) :: k)) cs w) :=
  step_lone_go (by
    have := fgo_eval (b := b) (t := t) (ds := ds) (k := .code (.cond c x y) :: k) c
    simp only [fgo] at this
    simp [stepG, stepG.exec, fgo, this, h])
theorem st_block {id : Nat} {c : Code} : step P (lone (fgo b t ds (.code (.block id c) :: k)) cs w) = .next (lone (fgo b t ds (.code c :: .inBlock id :: k)) cs w) := step_lone_go (by simp [stepG, stepG.exec, fgo])
theorem st_loop {c : Code} : step P (lone (fgo b t ds (.code (.loop c) :: k)) cs w) = .next (lone (fgo b t ds (.code c :: .inLoop c :: k)) cs w) := step_lone_go (by simp [stepG, stepG.exec, fgo])
theorem st_inLoop {c : Code} : step P (lone (fgo b t ds (.inLoop c :: k)) cs w) = .next (lone (fgo b t ds (.code c :: .inLoop c :: k)) cs w) := step_lone_go (by simp [stepG, stepG.exec, fgo])
theorem st_scope {c : Code} : step P (lone (fgo b t ds (.code (.scope c) :: k)) cs w) = .next (lone (fgo b t ds (.code c :: .inScope c :: k)) cs w) := step_lone_go (by simp [stepG, stepG.exec, fgo])
theorem st_exit {id : Nat} {k' : List Item} (h : exitTo id k = some k') : step P (lone (fgo b t ds (.code (.exit id) :: k)) cs w) = .next (lone (fgo b t ds k') cs w) := step_lone_go (by simp [stepG, stepG.exec, fgo, h])
theorem st_ret (hb : b.roundOf = none) : step P (lone (fgo b t ds (.code .ret :: k)) cs w) = .next (lone { fgo b t ds (.code .ret :: k) with mode := .returning } cs w) :=
  step_lone_go (by simp [stepG, stepG.exec, fgo, hb])
theorem st_end (hb : b.roundOf = none) : step P (lone (fgo b t ds []) cs w) = .next (lone { fgo b t ds [] with mode := .returning } cs w) :=
  step_lone_go (by simp [stepG, stepG.exec, fgo, hb])
theorem st_region {id : Nat} {ops : Array Oper} : step P (lone (fgo b t ds (.code (.region id ops false) :: k)) cs w) = .next (lone (fgo b t ds (.inRegion ops (List.range ops.size) :: k)) cs w) := step_lone_go (by simp [stepG, stepG.exec, fgo])
theorem st_regionEnd {ops : Array Oper} : step P (lone (fgo b t ds (.inRegion ops [] :: k)) cs w) = .next (lone (fgo b t ds k) cs w) := step_lone_go (by simp [stepG, stepG.exec, fgo])
theorem st_draw {id : Nat} {ops : Array Oper} : step P (lone (fgo b t ds (.code (.region id ops true) :: k)) cs w) =
    .next (lone (fgo b t ds (.inRegion ops (Region.schedule (P.follows .mixedOrders) ops (w.tape w.drawn (.order b.fn id))) :: k)) cs w.drew) :=
  step_lone_go (by simp [stepG, stepG.exec, fgo, choose, Sem.run, Question.forced, Question.cut])

def dstAt (t : Array Value) : Option Tmp → Value → Array Value
  | some d, v => t.setIfInBounds d v
  | none, _ => t
theorem finish_op {ops : Array Oper} {i : Nat} {rest : List Nat} {o : Oper} (ho : ops[i]? = some o) (v : Value) : (fgo b t ds (.inRegion ops (i :: rest) :: k)).finish v = fgo b (dstAt t o.dst v) ds (.inRegion ops rest :: k) := by
  cases h : o.dst <;> simp [Frame.finish, fgo, ho, h, dstAt]

theorem st_opSkip {ops : Array Oper} {i : Nat} {rest : List Nat} {o : Oper} (ho : ops[i]? = some o) (hw : Region.wanted o (yielded ops t) = false) :
    step P (lone (fgo b t ds (.inRegion ops (i :: rest) :: k)) cs w) = .next (lone (fgo b (dstAt t o.dst undef) ds (.inRegion ops rest :: k)) cs w) := by
  rw [← finish_op ho]
  exact step_lone_go (by simp [stepG, stepG.exec, fgo, ho, hw])

theorem stepG_op' {ops : Array Oper} {i : Nat} {rest : List Nat} {o : Oper} (ho : ops[i]? = some o) (hw : Region.wanted o (yielded ops t) = true) (hd : ∀ c, o.op ≠ .defer c) :
    stepG P true { frame := fgo b t ds (.inRegion ops (i :: rest) :: k), callers := cs, status := .running, dying := none } w =
      stepG.apply P true (fgo b t ds (.inRegion ops (i :: rest) :: k)) cs none (execOp (feval t) o) w := by
  have he := fgo_eval' (b := b) (t := t) (ds := ds) (k := .inRegion ops (i :: rest) :: k)
  simp only [fgo] at he
  obtain ⟨dst, op, ty, pos, after, guard⟩ := o
  cases hr : b.roundOf with
  | none => simp [stepG, stepG.exec, stepG.oper, Frame.oper?, fgo, ho, hw, hr] at he ⊢; rw [he]
  | some l =>
    simp only [stepG, stepG.exec, stepG.oper, Frame.oper?, fgo, ho, hw, hr, Option.map_some, Option.getD_some, if_true] at he ⊢
    cases op <;> first
      | (rw [he]; done)
      | exact absurd rfl (hd _)

theorem st_op {ops : Array Oper} {i : Nat} {rest : List Nat} {o : Oper} (ho : ops[i]? = some o) (hw : Region.wanted o (yielded ops t) = true) (hd : ∀ c, o.op ≠ .defer c) {v : Value} {w' : World}
    (hr : (execOp (feval t) o).run P w = .ok (.value v) w' ∨ ((execOp (feval t) o).run P w = .ok .skip w' ∧ v = undef)) :
    step P (lone (fgo b t ds (.inRegion ops (i :: rest) :: k)) cs w) = .next (lone (fgo b (dstAt t o.dst v) ds (.inRegion ops rest :: k)) cs w') := by
  rw [← finish_op ho]
  refine step_lone_go ?_
  rw [stepG_op' ho hw hd]
  rcases hr with hr | ⟨hr, rfl⟩ <;> simp [stepG.apply, hr]

theorem st_call {ops : Array Oper} {i : Nat} {rest : List Nat} {o : Oper} (ho : ops[i]? = some o) (hw : Region.wanted o (yielded ops t) = true) (hd : ∀ c, o.op ≠ .defer c) {f : FuncId} {args : Array Value} {w' : World}
    (hr : (execOp (feval t) o).run P w = .ok (.enter f args) w') :
    step P (lone (fgo b t ds (.inRegion ops (i :: rest) :: k)) cs w) = .next (lone (Frame.enter P f args .normal) (fgo b t ds (.inRegion ops (i :: rest) :: k) :: cs) w') := by
  refine step_lone_go ?_
  rw [stepG_op' ho hw hd]
  simp [stepG.apply, hr, fgo]

theorem st_round {ops : Array Oper} {i : Nat} {rest : List Nat} {o : Oper} (ho : ops[i]? = some o) (hw : Region.wanted o (yielded ops t) = true) (hd : ∀ c, o.op ≠ .defer c) {l : Nat} {f : FuncId} {tmps : Array Value} {x y : Code} {w' : World}
    (hr : (execOp (feval t) o).run P w = .ok (.round l f tmps x y) w') :
    step P (lone (fgo b t ds (.inRegion ops (i :: rest) :: k)) cs w) = .next (lone (Frame.round l f tmps x y .normal) (fgo b t ds (.inRegion ops (i :: rest) :: k) :: cs) w') := by
  refine step_lone_go ?_
  rw [stepG_op' ho hw hd]
  simp [stepG.apply, hr, fgo]

/-- a range over a function begins: its loop is made, the iterator is called -/
theorem st_rangeFunc {f : Operand} {ps : Array Tmp} {x y : Code} {l : Nat} {mark : List Deferred} {w1 : World} {tg : Sem Next}
    (he : (Instr.enterLoop b.fn t ps x y b.roundOf).run P w = .ok (l, mark) w1)
    (ht : tg = (do let d ← resolve (feval t) { callee := .value f, args := #[.const (.func (.yield l) #[] #[])], argTypes := #[] } 0; invoke d.target d.args))
    {g : FuncId} {args : Array Value} {w2 : World} (hr : tg.run P w1 = .ok (.enter g args) w2) :
    step P (lone (fgo b t ds (.code (.rangeFunc f ps x y) :: k)) cs w) = .next (lone (Frame.enter P g args .normal) (fgo b t (mark ++ ds) (.inRangeFunc l :: k) :: cs) w2) := by
  have hev : ∀ k', ({ fgo b t ds k' with todo := .inRangeFunc l :: k, defers := mark ++ (fgo b t ds k').defers } : Frame).eval = feval t := by
    intro k'; funext z; cases z <;> rfl
  refine step_lone_go ?_
  have h0 := hev (.code (.rangeFunc f ps x y) :: k)
  simp only [fgo] at h0
  simp only [stepG, stepG.exec, fgo, Sem.runT_eq, he, GStep.bare_after]
  rw [h0, ← ht]
  simp [stepG.apply, hr]

theorem st_rangeFuncR {f : Operand} {ps : Array Tmp} {x y : Code} {l : Nat} {mark : List Deferred} {w1 : World} {tg : Sem Next}
    (he : (Instr.enterLoop b.fn t ps x y b.roundOf).run P w = .ok (l, mark) w1)
    (ht : tg = (do let d ← resolve (feval t) { callee := .value f, args := #[.const (.func (.yield l) #[] #[])], argTypes := #[] } 0; invoke d.target d.args))
    {l2 : Nat} {g : FuncId} {tm : Array Value} {x2 y2 : Code} {w2 : World} (hr : tg.run P w1 = .ok (.round l2 g tm x2 y2) w2) :
    step P (lone (fgo b t ds (.code (.rangeFunc f ps x y) :: k)) cs w) = .next (lone (Frame.round l2 g tm x2 y2 .normal) (fgo b t (mark ++ ds) (.inRangeFunc l :: k) :: cs) w2) := by
  have hev : ∀ k', ({ fgo b t ds k' with todo := .inRangeFunc l :: k, defers := mark ++ (fgo b t ds k').defers } : Frame).eval = feval t := by
    intro k'; funext z; cases z <;> rfl
  refine step_lone_go ?_
  have h0 := hev (.code (.rangeFunc f ps x y) :: k)
  simp only [fgo] at h0
  simp only [stepG, stepG.exec, fgo, Sem.runT_eq, he, GStep.bare_after]
  rw [h0, ← ht]
  simp [stepG.apply, hr]

theorem st_endRange {l : Nat} {jump : Option Code} {w' : World} (h : (Instr.endLoop l).run P w = .ok jump w') :
    step P (lone (fgo b t ds (.endRangeFunc l :: k)) cs w) = .next (lone (fgo b t ds ((jump.map Item.code).toList ++ k)) cs w') := by
  refine step_lone_go ?_
  simp [stepG, stepG.exec, fgo, h]

theorem finish_range {l : Nat} (v : Value) : (fgo b t ds (.inRangeFunc l :: k)).finish v = fgo b t ds (.endRangeFunc l :: k) := rfl

theorem st_beginRound {l : Nat} {w' : World} (hb : b.roundOf = some l) (h : (Instr.beginRound l).run P w = .ok () w') :
    step P (lone (fgo b t ds (.beginRound :: k)) cs w) = .next (lone (fgo b t ds k) cs w') := by
  refine step_lone_go ?_
  simp [stepG, stepG.exec, fgo, hb, stepG.apply, h, Frame.finish]

/-- a round ends -/
theorem st_leave {l : Nat} {jump : Option Code} {v : Value} {w' : World} (hb : b.roundOf = some l) (hk : b.kind = .normal) (h : (Instr.endRound l jump).run P w = .ok v w') {todo : List Item}
    (ht : (jump = none ∧ todo = []) ∨ (jump = some .ret ∧ ∃ k, todo = .code .ret :: k) ∨ (∃ id k, jump = some (.exit id) ∧ todo = .code (.exit id) :: k ∧ exitTo id k = none)) {c : Frame} :
    step P (lone (fgo b t ds todo) (c :: cs) w) = .next (lone (c.finish v) cs w') := by
  refine step_lone_go ?_
  rcases ht with ⟨rfl, rfl⟩ | ⟨rfl, k, rfl⟩ | ⟨id, k, rfl, rfl, he⟩
  · simp [stepG, stepG.exec, fgo, hb, h, doReturn, hk]
  · simp [stepG, stepG.exec, fgo, hb, h, doReturn, hk]
  · simp [stepG, stepG.exec, fgo, hb, h, doReturn, hk, he]

/-- the marks of ranges over functions are taken up at a function's end -/
theorem st_collected {blk : Nat} {w' : World} {fr : Frame} (hm : fr.mode = .returning) (hd : fr.defers = { target := .collected blk, args := #[] } :: ds) (h : (Instr.takeDeferred blk).run P w = .ok [] w') :
    step P (lone fr cs w) = .next (lone { fr with defers := ds } cs w') := by
  refine step_lone_go ?_
  simp [stepG, unwind, hm, hd, h]

end
end Go.Ai
