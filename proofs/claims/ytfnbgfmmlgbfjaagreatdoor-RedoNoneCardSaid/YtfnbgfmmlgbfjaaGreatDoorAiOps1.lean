/-
  The operations that leave memory alone: what the interpreter answers stands for what the model answers.
-/
import Derived.Test.YtfnbgfmmlgbfjaaGreatDoorAiRel
import Derived.Laws.Sem
import Derived.Laws.Tables
import Derived.Laws.Cells
import Derived.Laws.Rows
import Derived.Laws.Append
namespace Go.Ai

/-- '==' at a struct or an array, and as a map's key -/
structure EqAgree (P : Program) (t : TypeId) (ks : List CK) : Prop where
  equal : ∀ (xs ys : Array Value) (b : Bool) (w : World), fitsK ks xs.toList = true → fitsK ks ys.toList = true → cellsEq xs.toList ys.toList = some b → (Op.equal t (.agg xs) (.agg ys)).run P w = .ok b w
  guard : P.eqGuardType P.depth t = false
  key : ∀ (xs : Array Value) (e : Bool) (w : World), fitsK ks xs.toList = true → (Instr.checkKey e 10000 t (.agg xs)).run P w = .ok () w
  agg : ∃ d, P.underlying t = some d ∧ TypeDesc.agg d = true

structure CfgOk (P : Program) (C : Cfg) (K : Code → Prop) : Prop where
  ty : ∀ t ty, C.ty t = some ty → P.underlying t = some ty.desc ∧ ∃ i, P.info? t = some i ∧ i.size = ty.size ∧ i.bytes = ty.bytes ∧ i.zero = ty.zero ∧ i.methods = ty.methods ∧ i.comparable = ty.cmp
  zero : ∀ t ty z, C.ty t = some ty → ty.zero = some z → litOk z = true
  fn : ∀ f fn, C.fn f = some fn → P.funcs[f]? = some fn ∧ fn.name ≠ "runtime.NumGoroutine" ∧ ∀ c, fn.body = some c → K c
  peq : ∀ t ks, C.peq t = some ks → EqAgree P t ks
  mixed : P.follows .mixedOrders = true

section
variable {P : Program} {C : Cfg} {K : Code → Prop} (H : CfgOk P C K) {β : Bij} {w : World}

theorem litOk_self (β : Bij) : ∀ {v : Value}, litOk v = true → VR β v v := by
  intro v h
  unfold litOk at h
  split at h <;> first
    | (constructor; done)
    | exact absurd h Bool.false_ne_true
    | skip
  rename_i cs
  refine .agg (.of rfl fun j v v' hv hv' => ?_)
  rw [hv] at hv'
  obtain rfl := Option.some.inj hv'
  have hm : v ∈ cs.toList := List.mem_of_getElem? hv
  have := List.all_eq_true.1 h v hm
  split at this <;> first
    | (constructor; done)
    | cases this

include H in
theorem run_under {t : TypeId} {ty : Ty} (h : C.ty t = some ty) : (underlying t).run P w = .ok ty.desc w := by
  simp [underlying, (H.ty t ty h).1]
include H in
theorem run_info {t : TypeId} {ty : Ty} (h : C.ty t = some ty) : ∃ i, (typeInfo t).run P w = .ok i w ∧ P.info? t = some i ∧ i.size = ty.size ∧ i.bytes = ty.bytes ∧ i.zero = ty.zero ∧ i.methods = ty.methods ∧ i.comparable = ty.cmp := by
  obtain ⟨_, i, hi, r⟩ := H.ty t ty h
  exact ⟨i, by simp [typeInfo, hi], hi, r⟩
include H in
theorem run_size {t : TypeId} {ty : Ty} (h : C.ty t = some ty) : (sizeOf t).run P w = .ok ty.size w := by
  obtain ⟨i, hi, _, hs, _⟩ := run_info (w := w) H h
  simp [sizeOf, hi, hs]
include H in
theorem run_zero {t : TypeId} {ty : Ty} {z : Value} (h : C.ty t = some ty) (hz : ty.zero = some z) : (zeroValue t).run P w = .ok z w := by
  obtain ⟨i, hi, _, _, _, hz', _⟩ := run_info (w := w) H h
  simp [zeroValue, hi, hz', hz]
include H in
theorem run_isAgg {t : TypeId} {ty : Ty} (h : C.ty t = some ty) : (isAgg t).run P w = .ok (TypeDesc.agg ty.desc) w := by
  simp only [isAgg, Sem.run_bind, run_under H h, Result.andThen_ok]
  cases ty.desc <;> rfl

include H in
theorem part_sim {t : TypeId} {ty : Ty} (h : C.ty t = some ty) {cs cs' : Array Value} {off : Nat} {v : Value} (hv : partV ty cs off = some v) (hr : VRs β cs.toList cs'.toList) :
    ∃ v', (part t cs' off).run P w = .ok v' w ∧ VR β v v' := by
  unfold partV at hv
  simp only [part, Sem.run_bind, run_isAgg H h, Result.andThen_ok]
  cases ha : TypeDesc.agg ty.desc with
  | true =>
    rw [ha, if_pos rfl] at hv
    split at hv
    · obtain rfl := Option.some.inj hv
      refine ⟨_, by simp only [if_true, Sem.run_bind, run_size H h, Result.andThen_ok]; rfl, .agg ?_⟩
      rw [Array.toList_extract, Array.toList_extract, List.extract_eq_take_drop, List.extract_eq_take_drop]
      exact (hr.drop _).take _
    · cases hv
  | false =>
    rw [ha] at hv
    simp only [Bool.false_eq_true, if_false] at hv
    rw [← Array.getElem?_toList] at hv
    obtain ⟨v', h1, h2⟩ := hr.get hv
    rw [Array.getElem?_toList] at h1
    exact ⟨v', by simp [h1], h2⟩

include H in
theorem field_sim {t : TypeId} {x x' : Value} {i : Nat} {v : Value} (hv : fieldV C t x i = some v) (hx : VR β x x') : ∃ v', (Instr.field t x' i).run P w = .ok v' w ∧ VR β v v' := by
  unfold fieldV at hv
  split at hv
  · rename_i fs _ _ _ _ _ cs hty
    cases hx with
    | agg ha =>
      split at hv
      · rename_i f hf
        split at hv
        · rename_i ft hft
          obtain ⟨v', h1, h2⟩ := part_sim (w := w) H hft hv ha
          refine ⟨v', ?_, h2⟩
          simp only [Instr.field, Sem.run_bind, run_under H hty, Result.andThen_ok, hf, asAgg, Sem.run_pure, h1]
        · cases hv
      · cases hv
  · cases hv

theorem int_inv {k : IntKind} {n : Int} {c : Value} (h : VR β (.int k n) c) : c = .int k n := by cases h; rfl
theorem bool_inv {b : Bool} {c : Value} (h : VR β (.bool b) c) : c = .bool b := by cases h; rfl
theorem string_inv {s : ByteArray} {c : Value} (h : VR β (.string s) c) : c = .string s := by cases h; rfl

include H in
theorem index_sim {t : TypeId} {x x' ix ix' : Value} {v : Value} (hv : indexV C t x ix = some v) (hx : VR β x x') (hi : VR β ix ix') : ∃ v', (Instr.index t x' ix').run P w = .ok v' w ∧ VR β v v' := by
  unfold indexV at hv
  split at hv
  · rename_i len elem _ _ _ _ _ cs k i hty
    cases hx with
    | agg ha =>
      obtain rfl := int_inv hi
      split at hv
      · rename_i hb
        split at hv
        · rename_i et het
          obtain ⟨v', h1, h2⟩ := part_sim (w := w) H het hv ha
          refine ⟨v', ?_, h2⟩
          simp only [Instr.index, asIntOf, Sem.run_bind, Sem.run_pure, Result.andThen_ok, run_under H hty]
          rw [if_pos hb]
          simp only [Sem.run_bind, run_size H het, Result.andThen_ok, h1]
        · cases hv
      · cases hv
  · rename_i _ _ _ _ _ s k i hty
    obtain rfl := string_inv hx
    obtain rfl := int_inv hi
    split at hv
    · rename_i h0
      rw [Option.map_eq_some_iff] at hv
      obtain ⟨b, hb, rfl⟩ := hv
      refine ⟨_, ?_, .int _ _⟩
      simp only [Instr.index, asIntOf, Sem.run_bind, Sem.run_pure, Result.andThen_ok, run_under H hty]
      rw [if_pos h0, hb]
      rfl
    · cases hv
  · cases hv

theorem intBin_sim {op : BinOp} {k : IntKind} {x y : Int} {v : Value} (hv : intBin op k x y = some v) (t : TypeId) : (binOp op t (.int k x) (.int k y)).run P w = .ok v w ∧ VR β v v := by
  cases op <;> simp only [intBin] at hv <;> first
    | (obtain rfl := Option.some.inj hv; exact ⟨by simp [binOp, Op.intArith, Op.intBits, Op.intCmp], by constructor⟩)
    | (split at hv
       · cases hv
       · rename_i h0; obtain rfl := Option.some.inj hv; exact ⟨by simp [binOp, Op.intDiv, h0], by constructor⟩)
    | cases hv

theorem intShift_sim {op : BinOp} {k j : IntKind} {x y : Int} {v : Value} (hv : intShift op k x y = some v) (t : TypeId) : (binOp op t (.int k x) (.int j y)).run P w = .ok v w ∧ VR β v v := by
  unfold intShift at hv
  split at hv
  · cases hv
  · rename_i h0
    cases op <;> simp only at hv <;> first
      | (obtain rfl := Option.some.inj hv; exact ⟨by simp [binOp, Op.shift, h0], by constructor⟩)
      | cases hv

theorem strBin_sim {op : BinOp} {x y : ByteArray} {v : Value} (hv : strBin op x y = some v) (t : TypeId) : (binOp op t (.string x) (.string y)).run P w = .ok v w ∧ VR β v v := by
  cases op <;> simp only [strBin] at hv <;> first
    | (obtain rfl := Option.some.inj hv; exact ⟨by simp [binOp, Op.stringOp], by constructor⟩)
    | (split at hv
       · rename_i h0
         obtain rfl := Option.some.inj hv
         refine ⟨?_, by constructor⟩
         have h1 : ¬ (((x.size + y.size : Nat) : Int) > IntKind.i64.max) := by
           have : IntKind.i64.max = 9223372036854775807 := by decide
           rw [this]; omega
         simp only [binOp, Op.stringOp]
         rw [if_neg h1]; rfl
       · cases hv)
    | cases hv

end
end Go.Ai
