/- The interpreter: what holds of it. -/
import Derived.Test.YtgplkbfjlidinabGreatDoorAiBase
import Derived.Laws.Sem
import Derived.Laws.Tables
import Derived.Laws.Cells
import Derived.Laws.Rows
import Derived.Laws.Append
import Derived.Test.YtgplkbfjlidinabGreatDoorKit
set_option linter.unusedVariables false
set_option linter.unusedSimpArgs false
set_option linter.unnecessarySimpa false
/-
  The operations that leave memory alone: what the interpreter answers stands for what the model answers.
-/
namespace Go.Ai
structure EqAgree (P : Program) (t : TypeId) (ks : List CK) : Prop where
 equal : ∀ (xs ys : Array Value) (b : Bool) (w : World), fitsK ks xs.toList = true → fitsK ks ys.toList = true → cellsEq xs.toList ys.toList = some b → (Op.equal t (.agg xs) (.agg ys)).run P w = .ok b w
 guard : P.eqGuardType P.depth t = false
 key : ∀ (xs : Array Value) (e : Bool) (w : World), fitsK ks xs.toList = true → (Instr.checkKey e 10000 t (.agg xs)).run P w = .ok () w
 agg : ∃ d, P.underlying t = some d ∧ TypeDesc.agg d = true
structure CfgOk (P : Program) (C : Cfg) (K : Code → Prop) : Prop where
 ty : ∀ t ty, C.ty t = some ty → P.underlying t = some ty.desc ∧ ∃ i, P.info? t = some i ∧ i.size = ty.size ∧ i.bytes = ty.bytes ∧ i.zero = ty.zero ∧ i.methods = ty.methods ∧ i.comparable = ty.cmp
 zero : ∀ t ty z, C.ty t = some ty → ty.zero = some z → litOk z = true
 fn : ∀ f fn, C.fn f = some fn → P.funcs[f]? = some fn ∧ fn.name ≠ "runtime.NumGoroutine" ∧ ∀ c, fn.body = some c → K c
 peq : ∀ t ks, C.peq t = some ks → EqAgree P t ks
 mixed : P.follows .mixedOrders = true
 dec : C.dec = Ai.dec
 cod : C.cod = code
 lie : ∀ t, C.lie t = true → liesAt P P.depth t 1 0 t 1 = true
section
variable {P : Program} {C : Cfg} {K : Code → Prop} (H : CfgOk P C K) {β : Bij} {w : World}
theorem litOk_self (β : Bij) : ∀ {v : Value}, litOk v = true → VR β v v := by
 intro v h;unfold litOk at h;split at h <;> first
  | (constructor; done)
  | exact absurd h Bool.false_ne_true
  | skip
 rename_i cs;refine .agg (.of rfl fun j v v' hv hv' => ?_);rw [hv] at hv';obtain rfl := Option.some.inj hv';have hm : v ∈ cs.toList := List.mem_of_getElem? hv;have := List.all_eq_true.1 h v hm;split at this <;> first
  | (constructor; done)
  | cases this
include H in
theorem tok_inv {c : Nat} {i : Inl} {v : Value} (hv : VR β (.chan (some c)) v) (hd : C.dec c = some i) : InlR β.ice i v := by
 rw [H.dec] at hd
 cases hv with
 | junk _ h hf => exact hf _ hd
include H in
theorem tok_mk {i : Inl} {v : Value} (h : InlR β.ice i v) : VR β (.chan (some (C.cod i))) v := by
 refine .junk _ (by cases h <;> rfl) fun j hj => ?_
 rw [H.cod, dec_code] at hj
 obtain rfl := Option.some.inj hj
 exact h
theorem ice_cells {own : Nat → Option Nat} {g : Nat → Option AObj} {b o : Nat} {cs : List Value} (hs : SR K β own g w) (h : ∀ j v, cs[j]? = some v → β.ice b (o + j) v) :
    ∃ cs', VRs β cs cs' ∧ cs'.length = cs.length ∧ ∀ j, j < cs.length → w.cell? ⟨b, o + j, none⟩ = cs'[j]? := by
  induction cs generalizing o with
  | nil => exact ⟨[], .nil, rfl, fun j hj => absurd hj (Nat.not_lt_zero _)⟩
  | cons v cs ih =>
    obtain ⟨_, _, _, _, x, h1, h2⟩ := hs.ice.at_ _ _ _ (h 0 v rfl);obtain ⟨cs', h3, h4, h5⟩ := ih (o := o + 1) fun j u hu => by rw [Nat.add_right_comm, Nat.add_assoc]; exact h (j + 1) u (by simpa using hu)
    refine ⟨x :: cs', .cons h2 h3, by simp [h4], fun j hj => ?_⟩;cases j with
    | zero => exact h1
    | succ j =>
      rw [show o + (j + 1) = o + 1 + j from Z4, h5 j (by simpa using hj)];rfl
include H in
theorem run_under {t : TypeId} {ty : Ty} (h : C.ty t = some ty) : (underlying t).run P w = .ok ty.desc w := by
 simp [underlying, (H.ty t ty h).1]
include H in
theorem run_info {t : TypeId} {ty : Ty} (h : C.ty t = some ty) : ∃ i, (typeInfo t).run P w = .ok i w ∧ P.info? t = some i ∧ i.size = ty.size ∧ i.bytes = ty.bytes ∧ i.zero = ty.zero ∧ i.methods = ty.methods ∧ i.comparable = ty.cmp := by
 obtain ⟨_, i, hi, r⟩ := H.ty t ty h
 exact ⟨i, by simp [typeInfo, hi], hi, r⟩
include H in
theorem run_size {t : TypeId} {ty : Ty} (h : C.ty t = some ty) : (sizeOf t).run P w = .ok ty.size w := by
 obtain ⟨i, hi, _, hs, _⟩ := run_info (w := w) H h
 simp [sizeOf, hi, hs]
include H in
theorem run_zero {t : TypeId} {ty : Ty} {z : Value} (h : C.ty t = some ty) (hz : ty.zero = some z) : (zeroValue t).run P w = .ok z w := by
 obtain ⟨i, hi, _, _, _, hz', _⟩ := run_info (w := w) H h
 simp [zeroValue, hi, hz', hz]
include H in
theorem run_isAgg {t : TypeId} {ty : Ty} (h : C.ty t = some ty) : (isAgg t).run P w = .ok (TypeDesc.agg ty.desc) w := by
 simp only [isAgg, Sem.run_bind, run_under H h, Result.andThen_ok]
 cases ty.desc <;> rfl
include H in
theorem part_sim {t : TypeId} {ty : Ty} (h : C.ty t = some ty) {cs cs' : Array Value} {off : Nat} {v : Value} (hv : partV ty cs off = some v) (hr : VRs β cs.toList cs'.toList) :
    ∃ v', (part t cs' off).run P w = .ok v' w ∧ VR β v v' := by
  unfold partV at hv
  simp only [part, Sem.run_bind, run_isAgg H h, Result.andThen_ok]
  cases ha : TypeDesc.agg ty.desc with
  | true =>
    rw [ha, if_pos rfl] at hv
    split at hv
    · obtain rfl := Option.some.inj hv
      refine ⟨_, by simp only [if_true, Sem.run_bind, run_size H h, Result.andThen_ok]; rfl, .agg ?_⟩
      rw [Array.toList_extract, Array.toList_extract, List.extract_eq_take_drop, List.extract_eq_take_drop]
      exact (hr.drop _).take _
    · cases hv
  | false =>
    rw [ha] at hv
    simp only [Bool.false_eq_true, if_false] at hv
    rw [← Array.getElem?_toList] at hv
    obtain ⟨v', h1, h2⟩ := hr.get hv
    rw [Array.getElem?_toList] at h1
    exact ⟨v', by simp [h1], h2⟩
include H in
theorem field_sim {t : TypeId} {x x' : Value} {i : Nat} {v : Value} (hv : fieldV C t x i = some v) (hx : VR β x x') : ∃ v', (Instr.field t x' i).run P w = .ok v' w ∧ VR β v v' := by
  unfold fieldV at hv
  split at hv
  · rename_i fs _ _ _ _ _ cs hty
    cases hx with
    | agg ha =>
      split at hv
      · rename_i f hf
        split at hv
        · rename_i ft hft
          obtain ⟨v', h1, h2⟩ := part_sim (w := w) H hft hv ha
          refine ⟨v', ?_, h2⟩
          simp only [Instr.field, Sem.run_bind, run_under H hty, Result.andThen_ok, hf, asAgg, Sem.run_pure, h1]
        · cases hv
      · cases hv
  · cases hv
theorem int_inv {k : IntKind} {n : Int} {c : Value} (h : VR β (.int k n) c) : c = .int k n := Z1l
theorem bool_inv {b : Bool} {c : Value} (h : VR β (.bool b) c) : c = .bool b := Z1l
theorem string_inv {s : ByteArray} {c : Value} (h : VR β (.string s) c) : c = .string s := Z1l
include H in
theorem index_sim {t : TypeId} {x x' ix ix' : Value} {v : Value} (hv : indexV C t x ix = some v) (hx : VR β x x') (hi : VR β ix ix') : ∃ v', (Instr.index t x' ix').run P w = .ok v' w ∧ VR β v v' := by
  unfold indexV at hv
  split at hv
  · rename_i len elem _ _ _ _ _ cs k i hty
    cases hx with
    | agg ha =>
      obtain rfl := int_inv hi
      split at hv
      · rename_i hb
        split at hv
        · rename_i et het
          obtain ⟨v', h1, h2⟩ := part_sim (w := w) H het hv ha
          refine ⟨v', ?_, h2⟩
          simp only [Instr.index, asIntOf, Sem.run_bind, Sem.run_pure, Result.andThen_ok, run_under H hty]
          rw [if_pos hb]
          simp only [Sem.run_bind, run_size H het, Result.andThen_ok, h1]
        · cases hv
      · cases hv
  · rename_i _ _ _ _ _ s k i hty
    obtain rfl := string_inv hx
    obtain rfl := int_inv hi
    split at hv
    · rename_i h0
      rw [Option.map_eq_some_iff] at hv
      obtain ⟨b, hb, rfl⟩ := hv
      refine ⟨_, ?_, .int _ _⟩
      simp only [Instr.index, asIntOf, Sem.run_bind, Sem.run_pure, Result.andThen_ok, run_under H hty]
      rw [if_pos h0, hb]
      rfl
    · cases hv
  · cases hv
theorem intBin_sim {op : BinOp} {k : IntKind} {x y : Int} {v : Value} (hv : intBin op k x y = some v) (t : TypeId) : (binOp op t (.int k x) (.int k y)).run P w = .ok v w ∧ VR β v v := by
  cases op <;> simp only [intBin] at hv <;> first
    | (obtain rfl := Option.some.inj hv; exact ⟨by simp [binOp, Op.intArith, Op.intBits, Op.intCmp], Z1t⟩)
    | (split at hv
       · cases hv
       · rename_i h0; obtain rfl := Option.some.inj hv; exact ⟨by simp [binOp, Op.intDiv, h0], Z1t⟩)
    | cases hv
theorem intShift_sim {op : BinOp} {k j : IntKind} {x y : Int} {v : Value} (hv : intShift op k x y = some v) (t : TypeId) : (binOp op t (.int k x) (.int j y)).run P w = .ok v w ∧ VR β v v := by
 unfold intShift at hv;split at hv
 ·cases hv
 ·rename_i h0;cases op <;> simp only at hv <;> first
   | (obtain rfl := Option.some.inj hv; exact ⟨by simp [binOp, Op.shift, h0], Z1t⟩)
   | cases hv
theorem strBin_sim {op : BinOp} {x y : ByteArray} {v : Value} (hv : strBin op x y = some v) (t : TypeId) : (binOp op t (.string x) (.string y)).run P w = .ok v w ∧ VR β v v := by
  cases op <;> simp only [strBin] at hv <;> first
    | (obtain rfl := Option.some.inj hv; exact ⟨by simp [binOp, Op.stringOp], Z1t⟩)
    | (split at hv
       · rename_i h0
         obtain rfl := Option.some.inj hv;refine ⟨?_, Z1t⟩;have h1 : ¬ (((x.size + y.size : Nat) : Int) > IntKind.i64.max) := by
           have : IntKind.i64.max = 9223372036854775807 := Zj
           rw [this]; omega
         simp only [binOp, Op.stringOp];rw [if_neg h1]; rfl
       · cases hv)
    | cases hv
end
end Go.Ai
/-
  '==', and the other operations on values.
-/
namespace Go.Ai
section
variable {P : Program} {C : Cfg} {K : Code → Prop} (H : CfgOk P C K) {β : Bij} {own : Nat → Option Nat} {s : St} {w : World}
include H in
theorem ptrTo_size {e : TypeId} (h : ptrTo C e = true) : ∃ n, (sizeOf e).run P w = .ok n w ∧ n ≠ 0 := by
 unfold ptrTo at h
 split at h
 ·rename_i et het
  exact ⟨et.size, run_size H het, by simpa using h⟩
 ·cases h
theorem run_sameAddr {a b : Nat} {o p : Nat} {c d : Array Value} {t u : TypeId} (ha : w.heap[a]? = some (.cells c t (0, 0))) (hb : w.heap[b]? = some (.cells d u (0, 0))) :
  (sameAddr ⟨a, o, none⟩ ⟨b, p, none⟩).run P w = .ok (decide (a = b) && decide (o = p)) w := by
 unfold sameAddr;by_cases e : a = b
 ·subst e;simp
  by_cases h : o = p
  ·subst h; simp
  ·simp [h]
 ·simp [e, World.frozen?, ha, hb, noView, viewAt, World.shape?, mayBeOne, stringish]
include H in
theorem eqB_sim (hs : SR K β own s.get w) {t : TypeId} {ty : Ty} (h : C.ty t = some ty) {x y x' y' : Value} (hx : VR β x x') (hy : VR β y y') {b : Bool} (hv : eqB C s ty.desc x y = some b) (d : Nat) :
    (Op.equalIn (d + 1) t x' y').run P w = .ok b w := by
  have hu := run_under (w := w) H h
  cases ty with
  | mk desc size bytes zero methods cmp =>
  simp only at hv hu
  unfold eqB at hv
  split at hv
  · cases hx; cases hy; obtain rfl := Option.some.inj hv; simp [Op.equalIn, hu]
  · cases hx; cases hy
    split at hv
    · rename_i e; subst e; obtain rfl := Option.some.inj hv; simp [Op.equalIn, hu]
    · cases hv
  · cases hx; cases hy; obtain rfl := Option.some.inj hv; simp [Op.equalIn, hu]
  · cases hx; cases hy <;> (obtain rfl := Option.some.inj hv; simp [Op.equalIn, hu])
  · cases hy; cases hx <;> (obtain rfl := Option.some.inj hv; simp [Op.equalIn, hu])
  · rename_i e a a2
    split at hv
    · rename_i c1 c2 h1 h2 h3 h4
      split at hv
      · rename_i hp
        obtain rfl := Option.some.inj hv
        obtain ⟨n, hn, hn0⟩ := ptrTo_size (w := w) H hp
        cases hx with
        | ptrArr h5 h6 => simp at h3
        | @ptrObj i o b1 h5 =>
          cases hy with
          | ptrArr h6 h7 => simp at h4
          | @ptrObj i2 oo b2 h6 =>
            obtain ⟨o1, _, g1⟩ := hs.obj _ _ h5
            obtain ⟨o2, _, g2⟩ := hs.obj _ _ h6
            obtain ⟨d1, t1, e1, _⟩ := g1 _ h1
            obtain ⟨d2, t2, e2, _⟩ := g2 _ h2
            simp only [Op.equalIn, Sem.run_bind, hu, Result.andThen_ok, hn]
            rw [if_pos hn0, run_sameAddr e1 e2]
            congr 1
            by_cases e : i = i2
            · subst e
              rw [h5] at h6
              obtain rfl := Option.some.inj h6
              by_cases e2 : o = oo <;> simp [e2]
            · have hne : b1 ≠ b2 := by
                rintro rfl
                rw [o1] at o2
                exact e (Option.some.inj o2)
              simp [e, hne]
      · cases hv
    · cases hv
  · cases hx; cases hy; obtain rfl := Option.some.inj hv; simp [Op.equalIn, hu]
  · split at hv
    · cases hv
    · rename_i hn
      cases hx; cases hy <;> first
        | exact absurd ⟨rfl, rfl⟩ hn
        | (obtain rfl := Option.some.inj hv; simp [Op.equalIn, hu]; done)
  · split at hv
    · cases hv
    · rename_i hn
      cases hy; cases hx <;> first
        | exact absurd ⟨rfl, rfl⟩ hn
        | (obtain rfl := Option.some.inj hv; simp [Op.equalIn, hu]; done)
  · cases hx; cases hy <;> (obtain rfl := Option.some.inj hv; simp [Op.equalIn, hu])
  · cases hy; cases hx <;> (obtain rfl := Option.some.inj hv; simp [Op.equalIn, hu])
  · cases hx; cases hy; obtain rfl := Option.some.inj hv; simp [Op.equalIn, hu]
  · cases hx; cases hy; obtain rfl := Option.some.inj hv; simp [Op.equalIn, hu]
  · cases hx; cases hy; obtain rfl := Option.some.inj hv; simp [Op.equalIn, hu]
  · cases hv
theorem CK.fits_eq {β : Bij} {k : CK} {v v' : Value} (h : k.fits v = true) (hv : VR β v v') : v' = v := by
 cases k <;> cases hv <;> first | rfl | (simp [CK.fits] at h)
theorem fits_eq {β : Bij} : ∀ {ks : List CK} {l l' : List Value}, fitsK ks l = true → VRs β l l' → l' = l
  | [], _, _, h, .nil => rfl
  | [], _, _, h, .cons _ _ => Z1a
  | _ :: _, _, _, h, .nil => Z1a
  | k :: ks, _, _, h, .cons hv ht => by
    simp only [fitsK, Bool.and_eq_true] at h;rw [fits_eq h.2 ht, CK.fits_eq h.1 hv]
theorem eqGuard_other {op : BinOp} (h1 : op ≠ .eql) (h2 : op ≠ .neq) (t : TypeId) (x y : Operand) (a b : Value) : (eqGuard op t x y a b).run P w = .ok () w := by
 cases op <;> first | rfl | exact absurd rfl h1 | exact absurd rfl h2
theorem eqGuard_ok (op : BinOp) (t : TypeId) (x y : Operand) (a b : Value) (h1 : ¬ (a = .nilIface ∧ b = .nilIface)) (h2 : ∀ xs ys, ¬ (a = .agg xs ∧ b = .agg ys)) : (eqGuard op t x y a b).run P w = .ok () w := by
 have e : op = .eql ∨ op = .neq ∨ (op ≠ .eql ∧ op ≠ .neq) := by cases op <;> simp
 rcases e with rfl | rfl | ⟨g1, g2⟩
 ·unfold eqGuard;simp only [Bool.not_true, Bool.false_eq_true, if_false];split
  ·exact absurd ⟨rfl, rfl⟩ h1
  ·exact absurd ⟨rfl, rfl⟩ (h2 _ _)
  ·rfl
 ·unfold eqGuard;simp only [Bool.not_true, Bool.false_eq_true, if_false];split
  ·exact absurd ⟨rfl, rfl⟩ h1
  ·exact absurd ⟨rfl, rfl⟩ (h2 _ _)
  ·rfl
 ·exact eqGuard_other g1 g2 _ _ _ _ _
theorem eqGuard_nil (op : BinOp) (t : TypeId) (x y : Operand) (h : (isConst x || isConst y) = true) : (eqGuard op t x y .nilIface .nilIface).run P w = .ok () w := by
 have e' : op = .eql ∨ op = .neq ∨ (op ≠ .eql ∧ op ≠ .neq) := by cases op <;> simp
 rcases e' with rfl | rfl | ⟨g1, g2⟩
 ·cases x <;> cases y <;> first | rfl | exact absurd h Bool.false_ne_true
 ·cases x <;> cases y <;> first | rfl | exact absurd h Bool.false_ne_true
 ·exact eqGuard_other g1 g2 _ _ _ _ _
theorem eqGuard_step {op : BinOp} (ho : op = .eql ∨ op = .neq) (t : TypeId) (x y : Operand) (h : ¬ (isConst x || isConst y) = true) (hg : (Op.eqGuardIn Op.maxDepth t .nilIface .nilIface).run P w = .ok false w) : (eqGuard op t x y .nilIface .nilIface).run P w = .ok () w := by
 have e : ∀ m : Sem Bool, m.run P w = .ok false w → (do if ← m then unsupported (.noEntry "binop/eql: two nil values of an interface type with methods, neither of them the literal nil") else pure () : Sem Unit).run P w = .ok () w := by
  intro m hm;rw [Sem.run_bind, hm]; rfl
 rcases ho with rfl | rfl
 ·cases x <;> cases y <;> first | exact absurd rfl h | exact e _ hg
 ·cases x <;> cases y <;> first | exact absurd rfl h | exact e _ hg
include H in
theorem eqGuard_plain (op : BinOp) {t : TypeId} {ty : Ty} (h : C.ty t = some ty) {ms : Array (String × TypeId)} (hd : ty.desc = .interface ms) (hm : ms.isEmpty = true) (x y : Operand) : (eqGuard op t x y .nilIface .nilIface).run P w = .ok () w := by
 have hg : (Op.eqGuardIn (9999 + 1) t .nilIface .nilIface).run P w = .ok false w := by
  unfold Op.eqGuardIn
  simp only [Sem.run_bind, run_under H h, Result.andThen_ok, hd, hm]
  rfl
 have hg : (Op.eqGuardIn Op.maxDepth t .nilIface .nilIface).run P w = .ok false w := hg
 by_cases hc : (isConst x || isConst y) = true
 ·exact eqGuard_nil _ _ _ _ hc
 have e' : op = .eql ∨ op = .neq ∨ (op ≠ .eql ∧ op ≠ .neq) := by cases op <;> simp
 rcases e' with h1 | h1 | ⟨g1, g2⟩
 ·exact eqGuard_step (.inl h1) _ _ _ hc hg
 ·exact eqGuard_step (.inr h1) _ _ _ hc hg
 ·exact eqGuard_other g1 g2 _ _ _ _ _
theorem eqGuard_agg (op : BinOp) {t : TypeId} {xs ys : Array Value} (h : P.eqGuardType P.depth t = false) (x y : Operand) : (eqGuard op t x y (.agg xs) (.agg ys)).run P w = .ok () w := by
 have e' : op = .eql ∨ op = .neq ∨ (op ≠ .eql ∧ op ≠ .neq) := by cases op <;> simp
 rcases e' with rfl | rfl | ⟨g1, g2⟩
 ·unfold eqGuard;simp [h]
 ·unfold eqGuard;simp [h]
 ·exact eqGuard_other g1 g2 _ _ _ _ _
include H in
theorem equalIn_iface {t : TypeId} {ty : Ty} (h : C.ty t = some ty) {ms : Array (String × TypeId)} (hd : ty.desc = .interface ms) {tx : TypeId} {tt : Ty} (htt : C.ty tx = some tt) (hc : tt.cmp = true) (x y : Value) (d : Nat) :
  (Op.equalIn (d + 1) t (.iface tx x) (.iface tx y)).run P w = (Op.equalIn d tx x y).run P w := by
 obtain ⟨i, hi, _, _, _, _, _, hcmp⟩ := run_info (w := w) H htt
 rw [Op.equalIn]
 simp only [Sem.run_bind, run_under H h, Result.andThen_ok, hd]
 rw [if_neg (by simp)]
 simp only [Sem.run_bind, hi, Result.andThen_ok, hcmp, hc]
 rfl
include H in
theorem eqV_sim (hs : SR K β own s.get w) {op : BinOp} {t : TypeId} {ox oy : Operand} {x y x' y' : Value} (hx : VR β x x') (hy : VR β y y') {b : Bool} (hv : eqV C s (isConst ox || isConst oy) t x y = some b) :
    (Op.equalIn (9998 + 1 + 1) t x' y').run P w = .ok b w ∧ (eqGuard op t ox oy x' y').run P w = .ok () w := by
  unfold eqV at hv
  split at hv
  · rename_i hty
    cases hx; cases hy
    split at hv
    · rename_i hl
      obtain rfl := Option.some.inj hv
      refine ⟨by rw [Op.equalIn, Sem.run_bind, run_under H hty]; rfl, ?_⟩
      by_cases hc : (isConst ox || isConst oy) = true
      · exact eqGuard_nil _ _ _ _ hc
      · rw [Bool.or_eq_true] at hl
        exact eqGuard_plain H _ hty rfl (hl.resolve_left hc) _ _
    · cases hv
  · rename_i hty
    cases hx; cases hy
    obtain rfl := Option.some.inj hv
    exact ⟨by rw [Op.equalIn, Sem.run_bind, run_under H hty]; rfl, eqGuard_ok _ _ _ _ _ _ (by rintro ⟨_, h⟩; cases h) (by rintro _ _ ⟨h, _⟩; cases h)⟩
  · rename_i hty
    cases hx; cases hy
    obtain rfl := Option.some.inj hv
    exact ⟨by rw [Op.equalIn, Sem.run_bind, run_under H hty]; rfl, eqGuard_ok _ _ _ _ _ _ (by rintro ⟨h, _⟩; cases h) (by rintro _ _ ⟨h, _⟩; cases h)⟩
  · rename_i tx vx ty vy hty
    cases hx with
    | iface hx =>
    cases hy with
    | iface hy =>
      refine ⟨?_, eqGuard_ok _ _ _ _ _ _ (by rintro ⟨h, _⟩; cases h) (by rintro _ _ ⟨h, _⟩; cases h)⟩
      split at hv
      · rename_i hne
        obtain rfl := Option.some.inj hv
        rw [Op.equalIn]
        simp only [Sem.run_bind, run_under H hty, Result.andThen_ok]
        rw [if_pos hne]; rfl
      · rename_i he
        have he : tx = ty := Classical.not_not.1 he
        subst he
        split at hv
        · rename_i tt htt
          split at hv
          · rename_i hc
            rw [equalIn_iface H hty rfl htt hc]
            exact eqB_sim H hs htt hx hy hv 9998
          · cases hv
        · cases hv
  · rename_i _ xs ys _
    cases hx with
    | @agg _ xs' hx =>
    cases hy with
    | @agg _ ys' hy =>
      split at hv
      · rename_i ks hks
        split at hv
        · rename_i hf
          simp only [Bool.and_eq_true] at hf
          have e1 := fits_eq hf.1 hx
          have e2 := fits_eq hf.2 hy
          have A := H.peq _ _ hks
          have e1 : xs' = xs := by cases xs; cases xs'; simpa using e1
          have e2 : ys' = ys := by cases ys; cases ys'; simpa using e2
          subst e1; subst e2
          exact ⟨A.equal _ _ _ _ hf.1 hf.2 hv, eqGuard_agg _ A.guard _ _⟩
        · cases hv
      · cases hv
  · rename_i x y _ _ _ ty hty _ _ _ _ hna
    refine ⟨eqB_sim H hs hty hx hy hv 9999, eqGuard_ok _ _ _ _ _ _ ?_ ?_⟩
    · rintro ⟨rfl, rfl⟩
      cases hx <;> cases hy <;> (cases ty with
      | mk d _ _ _ _ _ => cases d <;> simp [eqB] at hv)
    · rintro xs ys ⟨rfl, rfl⟩
      cases hx with
      | junk _ h _ => cases h
      | agg => cases hy with
        | junk _ h _ => cases h
        | agg => exact hna _ _ rfl rfl
  · cases hv
theorem eqB_junk1 {d : TypeDesc} {c : Nat} {y : Value} : eqB C s d (.chan (some c)) y = none := by
 cases d <;> cases y <;> rfl
theorem eqB_junk2 {d : TypeDesc} {c : Nat} {x : Value} : eqB C s d x (.chan (some c)) = none := by
 cases d <;> cases x <;> first
  | rfl
  | (rename_i o _ _; cases o <;> rfl)
  | (rename_i o; cases o <;> rfl)
theorem eqV_junk1 {l : Bool} {t : TypeId} {c : Nat} {y : Value} : eqV C s l t (.chan (some c)) y = none := by
 unfold eqV;split <;> first
  | exact eqB_junk1
  | rfl
  | (rename_i h _; cases h)
  | (rename_i h; cases h)
theorem eqB_cx1 {d : TypeDesc} {k : FloatKind} {a b : Nat} {y : Value} : eqB C s d (.complex k a b) y = none := by
 unfold eqB; split <;> first | rfl | (rename_i h; cases h)
theorem eqB_cx2 {d : TypeDesc} {k : FloatKind} {a b : Nat} {x : Value} : eqB C s d x (.complex k a b) = none := by
 unfold eqB; split <;> first | rfl | (rename_i h; cases h)
theorem eqV_cx1 {l : Bool} {t : TypeId} {k : FloatKind} {a b : Nat} {y : Value} : eqV C s l t (.complex k a b) y = none := by
 unfold eqV;split <;> first
  | exact eqB_cx1
  | rfl
  | (rename_i h; cases h)
theorem eqV_cx2 {l : Bool} {t : TypeId} {k : FloatKind} {a b : Nat} {x : Value} : eqV C s l t x (.complex k a b) = none := by
 unfold eqV;split <;> first
  | exact eqB_cx2
  | rfl
  | (rename_i h; cases h)
theorem eqV_junk2 {l : Bool} {t : TypeId} {c : Nat} {x : Value} : eqV C s l t x (.chan (some c)) = none := by
 unfold eqV;split <;> first
  | exact eqB_junk2
  | rfl
  | (rename_i h; cases h)
theorem binOp_eql (t : TypeId) {β : Bij} {x y x' y' : Value} (hx : VR β x x') (hy : VR β y y') (h1 : ∀ k a j b, ¬ (x = .int k a ∧ y = .int j b)) (h2 : ∀ a b, ¬ (x = .string a ∧ y = .string b)) (b : Bool)
  (hd : (Op.equalIn (9998 + 1 + 1) t x' y').run P w = .ok b w) (hf : ∀ k a j b, ¬ (x = .float k a ∧ y = .float j b)) (hc : ∀ k a j b c d, ¬ (x = .complex k a b ∧ y = .complex j c d))
  (hj : ∀ c, x ≠ .chan (some c)) (hj' : ∀ c, y ≠ .chan (some c)) (hk : ∀ k a b, x ≠ .complex k a b) (hk' : ∀ k a b, y ≠ .complex k a b) :
  (binOp .eql t x' y').run P w = .ok (.bool b) w ∧ (binOp .neq t x' y').run P w = .ok (.bool !b) w := by
 have e : ∀ x' y' : Value, (∀ k a j b, ¬ (x' = .int k a ∧ y' = .int j b)) → (∀ a b, ¬ (x' = .string a ∧ y' = .string b)) → (∀ k a j b, ¬ (x' = .float k a ∧ y' = .float j b)) → (∀ k a j b c d, ¬ (x' = .complex k a b ∧ y' = .complex j c d)) →
   binOp .eql t x' y' = (do pure (.bool (← Op.equal t x' y'))) ∧ binOp .neq t x' y' = (do pure (.bool (!(← Op.equal t x' y')))) := by
  intro x' y' g1 g2 g3 g4;unfold binOp;cases x' <;> cases y' <;> first
   | exact ⟨rfl, rfl⟩
   | exact absurd ⟨rfl, rfl⟩ (g1 _ _ _ _)
   | exact absurd ⟨rfl, rfl⟩ (g2 _ _)
   | exact absurd ⟨rfl, rfl⟩ (g3 _ _ _ _)
   | exact absurd ⟨rfl, rfl⟩ (g4 _ _ _ _ _ _)
 obtain ⟨e1, e2⟩ := e x' y'
  (by rintro k a j b ⟨rfl, rfl⟩; cases hx <;> cases hy <;> first | exact absurd rfl (hj _) | exact absurd rfl (hj' _) | exact absurd rfl (hk _ _ _) | exact absurd rfl (hk' _ _ _) | exact h1 _ _ _ _ ⟨rfl, rfl⟩)
  (by rintro a b ⟨rfl, rfl⟩; cases hx <;> cases hy <;> first | exact absurd rfl (hj _) | exact absurd rfl (hj' _) | exact absurd rfl (hk _ _ _) | exact absurd rfl (hk' _ _ _) | exact h2 _ _ ⟨rfl, rfl⟩)
  (by rintro k a j b ⟨rfl, rfl⟩; cases hx <;> cases hy <;> first | exact absurd rfl (hj _) | exact absurd rfl (hj' _) | exact absurd rfl (hk _ _ _) | exact absurd rfl (hk' _ _ _) | exact hf _ _ _ _ ⟨rfl, rfl⟩)
  (by rintro k a j b c d ⟨rfl, rfl⟩; cases hx <;> cases hy <;> first | exact absurd rfl (hj _) | exact absurd rfl (hj' _) | exact absurd rfl (hk _ _ _) | exact absurd rfl (hk' _ _ _) | exact hc _ _ _ _ _ _ ⟨rfl, rfl⟩)
 rw [e1, e2];have hd : (Op.equal t x' y').run P w = .ok b w := hd;constructor <;> simp only [Sem.run_bind, hd, Result.andThen_ok] <;> rfl
include H in
theorem binV_sim (hs : SR K β own s.get w) {op : BinOp} {t : TypeId} {ox oy : Operand} {x y x' y' v : Value} (hx : VR β x x') (hy : VR β y y') (hv : binV C s (isConst ox || isConst oy) op t x y = some v) :
    ∃ v', (do eqGuard op t ox oy x' y'; binOp op t x' y' : Sem Value).run P w = .ok v' w ∧ VR β v v' := by
  have ints : ∀ {k : IntKind} {a : Int} {y : Value} (op : BinOp), (eqGuard op t ox oy (.int k a) y).run P w = .ok () w := by
    intro k a y op
    exact eqGuard_ok _ _ _ _ _ _ (by rintro ⟨h, _⟩; cases h) (by rintro _ _ ⟨h, _⟩; cases h)
  have strs : ∀ {a : ByteArray} {y : Value} (op : BinOp), (eqGuard op t ox oy (.string a) y).run P w = .ok () w := by
    intro a y op
    exact eqGuard_ok _ _ _ _ _ _ (by rintro ⟨h, _⟩; cases h) (by rintro _ _ ⟨h, _⟩; cases h)
  have tokp : ∀ {c : Nat}, (isPt C t && isPtr C c) = true → VR β (.chan (some c)) x' → ∃ a el, x' = .pointer (some a) ∧ (underlying t).run P w = .ok (.pointer el) w := by
    intro c h hx
    rw [Bool.and_eq_true] at h
    obtain ⟨el, hu⟩ : ∃ el, (underlying t).run P w = .ok (.pointer el) w := by
      have h1 := h.1
      unfold isPt at h1
      split at h1
      · rename_i hty; exact ⟨_, run_under (w := w) H hty⟩
      · cases h1
    have h2 := h.2
    unfold isPtr at h2
    split at h2
    · rename_i cs hd
      rw [H.dec] at hd
      cases hx with
      | junk _ _ hf =>
        cases hf _ hd with
        | ptr _ => exact ⟨_, el, rfl, hu⟩
    · cases h2
  have ptrs : ∀ {a : Addr} (op : BinOp), (eqGuard op t ox oy (.pointer (some a)) (.pointer none)).run P w = .ok () w := by
    intro a op
    exact eqGuard_ok _ _ _ _ _ _ (by rintro ⟨h, _⟩; cases h) (by rintro _ _ ⟨h, _⟩; cases h)
  unfold binV at hv
  split at hv
  · split at hv
    · rename_i hq
      obtain rfl := Option.some.inj hv
      obtain ⟨a, el, rfl, hu⟩ := tokp hq hx
      cases hy
      have he0 : ∀ d, (Op.equalIn (d + 1) t (.pointer (some a)) (.pointer none)).run P w = .ok false w := fun d => by simp [Op.equalIn, hu]
      have he : (Op.equal t (.pointer (some a)) (.pointer none)).run P w = .ok false w := he0 9999
      refine ⟨.bool false, ?_, .bool _⟩
      rw [Sem.run_bind, ptrs, Result.andThen_ok]
      show (do pure (.bool (← Op.equal t (.pointer (some a)) (.pointer none))) : Sem Value).run P w = _
      rw [Sem.run_bind, he, Result.andThen_ok]; rfl
    · cases hv
  · split at hv
    · rename_i hq
      obtain rfl := Option.some.inj hv
      obtain ⟨a, el, rfl, hu⟩ := tokp hq hx
      cases hy
      have he0 : ∀ d, (Op.equalIn (d + 1) t (.pointer (some a)) (.pointer none)).run P w = .ok false w := fun d => by simp [Op.equalIn, hu]
      have he : (Op.equal t (.pointer (some a)) (.pointer none)).run P w = .ok false w := he0 9999
      refine ⟨.bool true, ?_, .bool _⟩
      rw [Sem.run_bind, ptrs, Result.andThen_ok]
      show (do pure (.bool (!(← Op.equal t (.pointer (some a)) (.pointer none)))) : Sem Value).run P w = _
      rw [Sem.run_bind, he, Result.andThen_ok]; rfl
    · cases hv
  · obtain rfl := int_inv hx
    obtain rfl := int_inv hy
    rename_i j _
    obtain ⟨h1, h2⟩ := intShift_sim (P := P) (β := β) (w := w) (j := j) hv t
    exact ⟨_, by simp [ints, h1], h2⟩
  · obtain rfl := int_inv hx
    obtain rfl := int_inv hy
    rename_i j _
    obtain ⟨h1, h2⟩ := intShift_sim (P := P) (β := β) (w := w) (j := j) hv t
    exact ⟨_, by simp [ints, h1], h2⟩
  · obtain rfl := int_inv hx
    obtain rfl := int_inv hy
    split at hv
    · rename_i e
      subst e
      obtain ⟨h1, h2⟩ := intBin_sim (P := P) (β := β) (w := w) hv t
      exact ⟨_, by simp [ints, h1], h2⟩
    · cases hv
  · obtain rfl := string_inv hx
    obtain rfl := string_inv hy
    obtain ⟨h1, h2⟩ := strBin_sim (P := P) (β := β) (w := w) hv t
    exact ⟨_, by simp [strs, h1], h2⟩
  · split at hv
    · rename_i a im b hle
      obtain rfl := Option.some.inj hv
      obtain rfl := int_inv hy
      cases hx with
      | complex _ _ _ hm =>
        rename_i m
        obtain ⟨h1, h2⟩ := intBin_sim (P := P) (β := β) (w := w) (op := .lss) (k := .i64) (x := m) (y := b) (v := .bool (decide (m < b))) rfl t
        rw [decide_eq_false (show ¬ m < b by omega)] at h1
        exact ⟨_, by simp [ints, h1], .bool _⟩
    · cases hv
  · rename_i n1 n2
    rw [Option.map_eq_some_iff] at hv
    obtain ⟨b, hb, rfl⟩ := hv
    obtain ⟨h1, h2⟩ := eqV_sim (op := .eql) H hs hx hy hb
    obtain ⟨h3, _⟩ := binOp_eql (P := P) (w := w) t hx hy (by rintro k a j b ⟨rfl, rfl⟩; exact n1 _ _ _ _ rfl rfl) (by rintro a b ⟨rfl, rfl⟩; exact n2 _ _ rfl rfl) b h1
      (by rintro k a j b ⟨rfl, rfl⟩; unfold eqV at hb; split at hb <;> simp_all [eqB]) (by rintro k a j b c d ⟨rfl, rfl⟩; unfold eqV at hb; split at hb <;> simp_all [eqB])
      (by rintro c rfl; rw [eqV_junk1] at hb; cases hb) (by rintro c rfl; rw [eqV_junk2] at hb; cases hb) (by rintro k a b' rfl; rw [eqV_cx1] at hb; cases hb) (by rintro k a b' rfl; rw [eqV_cx2] at hb; cases hb)
    exact ⟨_, by rw [Sem.run_bind, h2, Result.andThen_ok, h3], .bool _⟩
  · rename_i n1 n2
    rw [Option.map_eq_some_iff] at hv
    obtain ⟨b, hb, rfl⟩ := hv
    obtain ⟨h1, h2⟩ := eqV_sim (op := .neq) H hs hx hy hb
    obtain ⟨_, h3⟩ := binOp_eql (P := P) (w := w) t hx hy (by rintro k a j b ⟨rfl, rfl⟩; exact n1 _ _ _ _ rfl rfl) (by rintro a b ⟨rfl, rfl⟩; exact n2 _ _ rfl rfl) b h1
      (by rintro k a j b ⟨rfl, rfl⟩; unfold eqV at hb; split at hb <;> simp_all [eqB]) (by rintro k a j b c d ⟨rfl, rfl⟩; unfold eqV at hb; split at hb <;> simp_all [eqB])
      (by rintro c rfl; rw [eqV_junk1] at hb; cases hb) (by rintro c rfl; rw [eqV_junk2] at hb; cases hb) (by rintro k a b' rfl; rw [eqV_cx1] at hb; cases hb) (by rintro k a b' rfl; rw [eqV_cx2] at hb; cases hb)
    exact ⟨_, by rw [Sem.run_bind, h2, Result.andThen_ok, h3], .bool _⟩
  · cases hv
theorem unV_sim {op : UnOp} {x x' v : Value} (hx : VR β x x') (hv : unV op x = some v) : (Op.unary op x').run P w = .ok v w ∧ VR β v v := by
 unfold unV at hv;split at hv
 ·obtain rfl := int_inv hx; obtain rfl := Option.some.inj hv; exact ⟨by simp [Op.unary, Op.intArith], Z1t⟩
 ·obtain rfl := int_inv hx; obtain rfl := Option.some.inj hv; exact ⟨by simp [Op.unary, Op.intBits], Z1t⟩
 ·obtain rfl := bool_inv hx; obtain rfl := Option.some.inj hv; exact ⟨by simp [Op.unary], Z1t⟩
 ·cases hv
include H in
theorem nilTok_sim {op : BinOp} {t : TypeId} {ox oy : Operand} {x y x' y' : Value} {l : List Bool} (hv : nilTok C op t x y = some l) (hx : VR β x x') (hy : VR β y y') :
    ∃ b ∈ l, (do eqGuard op t ox oy x' y'; binOp op t x' y' : Sem Value).run P w = .ok (.bool b) w := by
  unfold nilTok at hv
  cases hq : eqOp op with
  | none => rw [hq] at hv; cases hv
  | some q =>
  rw [hq] at hv
  simp only at hv
  split at hv
  · rename_i hsl
    rw [Option.map_eq_some_iff] at hv
    obtain ⟨n, hn, rfl⟩ := hv
    obtain ⟨el, hu⟩ : ∃ el, (underlying t).run P w = .ok (.slice el) w := by
      unfold isSl at hsl
      split at hsl
      · rename_i hty; exact ⟨_, run_under (w := w) H hty⟩
      · cases hsl
    have tok : ∀ {z v : Value}, nilOf C z = some n → VR β z v → (n = 0 ∧ v = .slice none 0 0) ∨ ∃ a m k, v = .slice (some a) m k := by
      intro z v h hv
      unfold nilOf at h
      split at h
      · unfold tokN at h
        split at h
        · rename_i hd
          rw [H.dec] at hd
          obtain rfl := Option.some.inj h
          cases hv with
          | junk _ _ hf =>
            cases hf _ hd with
            | none _ => exact .inl ⟨rfl, rfl⟩
            | empty _ => exact .inr ⟨_, _, _, rfl⟩
            | slice _ _ _ _ _ => exact .inr ⟨_, _, _, rfl⟩
        · cases h
      · obtain rfl := Option.some.inj h
        cases hv with
        | sliceArr _ _ _ _ _ _ _ => exact .inr ⟨_, _, _, rfl⟩
        | sliceVir _ _ _ => exact .inl ⟨rfl, rfl⟩
      · cases h
    have hc : ∃ b, ((x' = .slice none 0 0 ∧ y' = .slice none 0 0 ∧ b = true) ∨ (∃ a n c, x' = .slice (some a) n c ∧ y' = .slice none 0 0 ∧ b = false) ∨ (∃ a n c, y' = .slice (some a) n c ∧ x' = .slice none 0 0 ∧ b = false)) ∧ (n ≠ 0 → b = false) := by
      unfold nilN at hn
      split at hn
      · cases hy
        rcases tok hn hx with ⟨rfl, rfl⟩ | ⟨a, m, k, rfl⟩
        · exact ⟨true, .inl ⟨rfl, rfl, rfl⟩, fun h => absurd rfl h⟩
        · exact ⟨false, .inr (.inl ⟨_, _, _, rfl, rfl, rfl⟩), fun _ => rfl⟩
      · cases hx
        rcases tok hn hy with ⟨rfl, rfl⟩ | ⟨a, m, k, rfl⟩
        · exact ⟨true, .inl ⟨rfl, rfl, rfl⟩, fun h => absurd rfl h⟩
        · exact ⟨false, .inr (.inr ⟨_, _, _, rfl, rfl, rfl⟩), fun _ => rfl⟩
      · cases hn
    obtain ⟨b, hc, hb⟩ := hc
    have hg : (eqGuard op t ox oy x' y').run P w = .ok () w := by
      refine eqGuard_ok _ _ _ _ _ _ ?_ ?_
      · rintro ⟨rfl, rfl⟩; rcases hc with ⟨h, _⟩ | ⟨_, _, _, h, _⟩ | ⟨_, _, _, h, _⟩ <;> cases h
      · rintro _ _ ⟨rfl, rfl⟩; rcases hc with ⟨h, _⟩ | ⟨_, _, _, h, _⟩ | ⟨_, _, _, h, _⟩ <;> cases h
    have he0 : ∀ d, (Op.equalIn (d + 1) t x' y').run P w = .ok b w := by
      intro d
      rcases hc with ⟨rfl, rfl, rfl⟩ | ⟨a, n, c, rfl, rfl, rfl⟩ | ⟨a, n, c, rfl, rfl, rfl⟩ <;> simp [Op.equalIn, hu]
    have he : (Op.equal t x' y').run P w = .ok b w := he0 9999
    have hrun : (do eqGuard op t ox oy x' y'; binOp op t x' y' : Sem Value).run P w = .ok (.bool (if q then b else !b)) w := by
      rw [Sem.run_bind, hg, Result.andThen_ok]
      cases op <;> first
        | (cases hq; done)
        | (obtain rfl := Option.some.inj hq
           have : binOp .eql t x' y' = (do pure (.bool (← Op.equal t x' y'))) := by
             rcases hc with ⟨rfl, rfl, rfl⟩ | ⟨a, n, c, rfl, rfl, rfl⟩ | ⟨a, n, c, rfl, rfl, rfl⟩ <;> rfl
           rw [this, Sem.run_bind, he, Result.andThen_ok]; rfl)
        | (obtain rfl := Option.some.inj hq
           have : binOp .neq t x' y' = (do pure (.bool (!(← Op.equal t x' y')))) := by
             rcases hc with ⟨rfl, rfl, rfl⟩ | ⟨a, n, c, rfl, rfl, rfl⟩ | ⟨a, n, c, rfl, rfl, rfl⟩ <;> rfl
           rw [this, Sem.run_bind, he, Result.andThen_ok]; rfl)
    refine ⟨_, ?_, hrun⟩
    by_cases h0 : n = 0
    · rw [if_pos h0]
      generalize (if q = true then b else !b) = z
      cases z <;> simp
    · rw [if_neg h0, hb h0]
      cases q <;> simp
  · cases hv
end
end Go.Ai
/-
  Building, slicing, addresses, assertions.
-/
namespace Go.Ai
theorem setAll_eq (off : Nat) : ∀ (vs : List Value) (k : Nat) (cells : Array Value), off + k + vs.length ≤ cells.size →
    ((vs.zipIdx k).foldl (fun cs (x : Value × Nat) => cs.setIfInBounds (off + x.2) x.1) cells).toList = splice cells.toList (off + k) vs := by
  intro vs;induction vs with
  | nil => intro k cells h; simp [splice]
  | cons v r ih =>
    intro k cells h;simp only [List.zipIdx_cons, List.foldl_cons];simp only [List.length_cons] at h;rw [ih (k + 1) _ Z0d];apply List.ext_getElem?;intro j;rw [splice_get _ _ _ Z0d, splice_get _ _ _ Z0d];rw [Array.toList_setIfInBounds, List.getElem?_set];by_cases h1 : off + (k + 1) ≤ j ∧ j < off + (k + 1) + r.length
    · rw [if_pos h1, if_pos Z0d]
      obtain ⟨m, rfl⟩ : ∃ m, j = off + (k + 1) + m := ⟨j - (off + (k + 1)), Z4⟩;rw [show off + (k + 1) + m - (off + (k + 1)) = m from Z4, show off + (k + 1) + m - (off + k) = m + 1 from Z4];rfl
    · rw [if_neg h1]
      by_cases h2 : off + k = j
      · subst h2
        rw [if_pos rfl, if_pos Z0d, if_pos Z0u];simp
      · rw [if_neg h2, if_neg Z0d]
theorem fill_sim {β : Bij} {place place' : Nat → Option (Nat × Nat)} (hp : ∀ i x, place i = some x → place' i = some x) : ∀ (parts parts' : List (Nat × Value)) (cs : List Value) (cs' : Array Value) (r : List Value),
    VRs β cs cs'.toList → parts'.map (·.1) = parts.map (·.1) → VRs β (parts.map (·.2)) (parts'.map (·.2)) → fillV place cs parts = some r → ∃ r', Instr.fill place' cs' parts' = some r' ∧ VRs β r r'.toList := by
  intro parts;induction parts with
  | nil =>
    intro parts' cs cs' r hc h1 h2 hf;cases parts' with
    | nil => obtain rfl := Option.some.inj hf; exact ⟨cs', rfl, hc⟩
    | cons => simp at h1
  | cons x rest ih =>
    intro parts' cs cs' r hc h1 h2 hf;cases parts' with
    | nil => simp at h1
    | cons x' rest' =>
      obtain ⟨i, v⟩ := x;obtain ⟨i', v'⟩ := x';simp only [List.map_cons, List.cons.injEq] at h1 h2;obtain ⟨rfl, h1⟩ := h1;obtain ⟨hv, h2⟩ := h2.rest;unfold fillV at hf;split at hf
      · cases hf
      · rename_i off size hpl
        split at hf
        · cases hf
        · rename_i hn
          have hn : v.cells.size = size ∧ off + size ≤ cs.length := by
            by_cases h1 : v.cells.size = size
            · by_cases h2 : off + size ≤ cs.length
              · exact ⟨h1, h2⟩
              · exact absurd (by simp; right; omega) hn
            · exact absurd (by simp [h1]) hn
          have hsz := hv.cells_size;have hl := hc.length;simp only [Array.length_toList] at hl;unfold Instr.fill;rw [hp _ _ hpl];simp only;rw [if_neg Z0d];refine ih rest' _ _ r ?_ h1 h2 hf;have := setAll_eq off v'.cells.toList 0 cs' Z0d;rw [← Array.foldl_toList];simp only [Array.toList_zipIdx];rw [Nat.add_zero] at this;rw [this];exact hc.splice off hv.cells
section
variable {P : Program} {C : Cfg} {K : Code → Prop} (H : CfgOk P C K) {β : Bij} {own : Nat → Option Nat} {s : St} {w : World}
theorem mapM_some {α γ : Type} (f : α → Option γ) : ∀ (l : List α), (∀ a ∈ l, (f a).isSome = true) → ∃ r, l.mapM f = some r ∧ ∀ i : Nat, r[i]? = (l[i]?).bind f
  | [], _ => ⟨[], rfl, Z0u⟩
  | a :: l, h => by
    obtain ⟨r, hr, hi⟩ := mapM_some f l fun b hb => h b (by simp [hb])
    obtain ⟨x, hx⟩ := Option.isSome_iff_exists.1 (h a Z0u);refine ⟨x :: r, by simp [List.mapM_cons, hx, hr], fun i => ?_⟩;cases i with
    | zero => simp [hx]
    | succ i => simpa using hi i
include H in
theorem build_sim {t : TypeId} {parts : List (Nat × Value)} {parts' : Array (Nat × Value)} {v : Value} (hv : buildV C t parts = some v) (h1 : parts'.toList.map (·.1) = parts.map (·.1)) (h2 : VRs β (parts.map (·.2)) (parts'.toList.map (·.2))) :
  ∃ v', (Instr.build t parts').run P w = .ok v' w ∧ VR β v v' := by
 unfold buildV at hv
 split at hv
 ·rename_i fs _ _ z _ _ hty
  obtain ⟨hu, it, hit, _, _, hz, _⟩ := H.ty _ _ hty
  split at hv
  ·rename_i hall
   rw [Option.map_eq_some_iff] at hv
   obtain ⟨cs, hcs, rfl⟩ := hv
   obtain ⟨pl, hpl, hpli⟩ := mapM_some (fun f : Field => (P.info? f.type).map fun i => (f.offset, i.size)) fs.toList (by
    intro f hf
    have := List.all_eq_true.1 hall f hf
    obtain ⟨ft, hft⟩ := Option.isSome_iff_exists.1 this
    obtain ⟨_, i, hi, _⟩ := H.ty _ _ hft
    simp [hi])
   have hz0 := H.zero _ _ _ hty rfl
   obtain ⟨r', hr, hrr⟩ := fill_sim (β := β) (place := places C fs) (place' := fun i => pl.toArray[i]?) (by
    intro i x hx
    unfold places at hx
    split at hx
    ·rename_i f hf
     rw [Option.map_eq_some_iff] at hx
     obtain ⟨ft, hft, rfl⟩ := hx
     obtain ⟨_, j, hj, hs, _⟩ := H.ty _ _ hft
     show pl.toArray[i]? = _
     rw [List.getElem?_toArray, hpli i]
     have : fs.toList[i]? = some f := by simpa using hf
     simp [this, hj, hs]
    ·cases hx) _ parts'.toList _ z.cells cs (litOk_self β hz0).cells h1 h2 hcs
   refine ⟨.agg r', run_build w t parts' r' ?_, .agg hrr⟩
   simp only [Program.built, hit, hu, hz, hpl]
   exact hr
  ·cases hv
 ·rename_i elem _ _ z _ _ hty
  obtain ⟨hu, it, hit, _, _, hz, _⟩ := H.ty _ _ hty
  split at hv
  ·rename_i et het
   obtain ⟨_, ie, hie, hs, _⟩ := H.ty _ _ het
   rw [Option.map_eq_some_iff] at hv
   obtain ⟨cs, hcs, rfl⟩ := hv
   have hz0 := H.zero _ _ _ hty rfl
   obtain ⟨r', hr, hrr⟩ := fill_sim (β := β) (place := fun i => some (i * et.size, et.size)) (place' := fun i => some (i * ie.size, ie.size)) (by
    intro i x hx; rw [hs]; exact hx) _ parts'.toList _ z.cells cs (litOk_self β hz0).cells h1 h2 hcs
   refine ⟨.agg r', run_build w t parts' r' ?_, .agg hrr⟩
   simp only [Program.built, hit, hu, hz, hie]
   exact hr
  ·cases hv
 ·cases hv
theorem addr_add (b o n : Nat) : (⟨b, o, none⟩ : Addr).add n = ⟨b, o + n, none⟩ := by
 unfold Addr.add; split <;> simp_all
theorem ptr_plus {a : Addr} {n : Nat} {c : Value} (h : VR β (.pointer (some a)) c) : ∃ a', c = .pointer (some a') ∧ VR β (.pointer (some (Addr.plus a n))) (.pointer (some (a'.add n))) := by
  cases h with
  | ptrObj h => exact ⟨_, rfl, by rw [addr_add]; exact .ptrObj h⟩
  | @ptrArr i o hi L h h1 =>
    refine ⟨_, rfl, ?_⟩;rw [addr_add];have := VR.ptrArr (β := β) (o := o + n) h Z4;rw [show L.base + (o - L.lo) + n = L.base + (o + n - L.lo) from Z4];exact this
include H in
theorem fieldAddr_sim {t : TypeId} {x x' : Value} {i : Nat} {v : Value} (hv : fieldAddrV C t x i = some v) (hx : VR β x x') : ∃ v', (Instr.fieldAt t x' i).run P w = .ok v' w ∧ VR β v v' := by
  unfold fieldAddrV at hv
  split at hv
  · rename_i fs _ _ _ _ _ a hty
    split at hv
    · rename_i f hf
      split at hv
      · rename_i ft hft
        split at hv
        · cases hv
        · rename_i hs0
          obtain rfl := Option.some.inj hv
          obtain ⟨a', rfl, hr⟩ := ptr_plus (n := f.offset) hx
          refine ⟨_, ?_, hr⟩
          simp only [Instr.fieldAt, Sem.run_bind, run_under H hty, Result.andThen_ok, hf, Instr.sureAddr, Sem.run_pure, fieldPlace, run_size H hft]
          rw [if_neg hs0]; rfl
      · cases hv
    · cases hv
  · rename_i fs _ _ _ _ _ c hty
    split at hv
    · rename_i f cs hf hd
      split at hv
      · rename_i ft hft
        split at hv
        · cases hv
        · rename_i hs0
          obtain rfl := Option.some.inj hv
          have hi := tok_inv H hx hd
          cases hi with
          | @ptr b o _ h =>
            refine ⟨.pointer (some ⟨b, o + f.offset, none⟩), ?_, tok_mk H (.ptr fun j v hj => ?_)⟩
            · simp only [Instr.fieldAt, Sem.run_bind, run_under H hty, Result.andThen_ok, hf, Instr.sureAddr, Sem.run_pure, fieldPlace, run_size H hft]
              rw [if_neg hs0, ← addr_add]; rfl
            · rw [List.getElem?_drop] at hj
              rw [Nat.add_assoc]
              exact h _ _ hj
      · cases hv
    · cases hv
  · cases hv
include H in
theorem indexAddr_sim {t : TypeId} {x x' ix ix' : Value} {v : Value} (hv : indexAddrV C t x ix = some v) (hx : VR β x x') (hi : VR β ix ix') : ∃ v', (Instr.indexAt t x' ix').run P w = .ok v' w ∧ VR β v v' := by
  unfold indexAddrV at hv
  split at hv
  · rename_i len elem _ _ _ _ _ a k i hty
    obtain rfl := int_inv hi
    split at hv
    · rename_i et het
      split at hv
      · rename_i hb
        obtain rfl := Option.some.inj hv
        obtain ⟨a', rfl, hr⟩ := ptr_plus (n := i.toNat * et.size) hx
        refine ⟨_, ?_, hr⟩
        simp [Instr.indexAt, asIntOf, run_under H hty, Instr.sureAddr, hb, run_size H het]
      · cases hv
    · cases hv
  · rename_i elem _ _ _ _ _ a len sz k i hty
    obtain rfl := int_inv hi
    split at hv
    · rename_i et het
      split at hv
      · rename_i hb
        obtain ⟨hb0, hb1, hb2⟩ := hb
        obtain rfl := Option.some.inj hv
        have key : ∀ (c : Addr) (cap : Nat), (Instr.indexAt t (.slice (some c) len cap) (.int k i)).run P w = .ok (.pointer (some (c.add (i.toNat * sz)))) w := by
          intro c cap
          simp [Instr.indexAt, asIntOf, run_under H hty, hb1, hb2, run_size H het, hb0]
        cases hx with
        | sliceVir => exfalso; omega
        | sliceObj h hz hc =>
          refine ⟨_, key _ _, ?_⟩
          rcases hc with ⟨rfl, _, _⟩ | ⟨_, _, rfl, _⟩
          · rw [addr_add]; exact .ptrObj h
          · exfalso; omega
        | @sliceArr j o hi' _ _ _ L c h h1 h2 hz hs hc _ =>
          refine ⟨_, key _ _, ?_⟩
          rcases hc with ⟨rfl, _, _⟩ | ⟨_, _, rfl, _⟩
          · rw [addr_add]
            have := VR.ptrArr (β := β) (o := o + i.toNat * sz) h (by omega)
            rw [show L.base + (o - L.lo) + i.toNat * sz = L.base + (o + i.toNat * sz - L.lo) from by omega]
            exact this
          · exfalso; omega
      · cases hv
    · cases hv
  · rename_i len elem _ _ _ _ _ c k i hty
    obtain rfl := int_inv hi
    split at hv
    · rename_i et cs het hd
      split at hv
      · rename_i hb
        obtain rfl := Option.some.inj hv
        have hi := tok_inv H hx hd
        cases hi with
        | @ptr b o _ h =>
          refine ⟨.pointer (some ⟨b, o + i.toNat * et.size, none⟩), ?_, tok_mk H (.ptr fun j v hj => ?_)⟩
          · rw [← addr_add]
            simp [Instr.indexAt, asIntOf, run_under H hty, Instr.sureAddr, hb, run_size H het]
          · rw [List.getElem?_drop] at hj
            rw [Nat.add_assoc]
            exact h _ _ hj
      · cases hv
    · cases hv
  · rename_i elem _ _ _ _ _ c k i hty
    obtain rfl := int_inv hi
    split at hv
    · rename_i et n sz cs sp het hd
      split at hv
      · rename_i hb
        obtain ⟨hb0, hb1, hb2⟩ := hb
        obtain rfl := Option.some.inj hv
        have hi := tok_inv H hx hd
        cases hi with
        | none hz => exfalso; omega
        | empty hz => exfalso; omega
        | @slice _ _ cap b o _ _ hz hl hn hc h =>
          refine ⟨.pointer (some ⟨b, o + i.toNat * sz, none⟩), ?_, tok_mk H (.ptr fun j v hj => ?_)⟩
          · rw [← addr_add]
            simp [Instr.indexAt, asIntOf, run_under H hty, hb1, hb2, run_size H het, hb0]
          · rw [List.getElem?_drop] at hj
            rw [Nat.add_assoc]
            refine h _ _ ?_
            rw [List.getElem?_append_left (List.getElem?_eq_some_iff.1 hj).1]
            exact hj
      · cases hv
    · cases hv
  · cases hv
end
end Go.Ai