/- The interpreter: what holds of it. -/
import Derived.Test.YtgplkbfjlidinabGreatDoorAiEq
import Derived.Test.YtgplkbfjlidinabGreatDoorKit
set_option linter.unusedVariables false
set_option linter.unusedSimpArgs false
set_option linter.unnecessarySimpa false
/-
  Other numbers for the same things: what is known of memory may be told again with fewer things and other numbers.
-/
namespace Go.Ai
inductive FnS (R : Nat → Option Nat → Nat → Prop) : Fn → Fn → Prop where
 | same (f : Fn) (h : ∀ l, f ≠ .yield l) : FnS R f f
 | yield {l l' : Nat} (h : R l none l') : FnS R (.yield l) (.yield l')
mutual
inductive Sub (R : Nat → Option Nat → Nat → Prop) : Value → Value → Prop where
 | bool (b : Bool) : Sub R (.bool b) (.bool b)
 | int (k : IntKind) (n : Int) : Sub R (.int k n) (.int k n)
 | float (k : FloatKind) (n : Nat) : Sub R (.float k n) (.float k n)
 | complex (k : FloatKind) (a b : Nat) : Sub R (.complex k a b) (.complex k a b)
 | string (s : ByteArray) : Sub R (.string s) (.string s)
 | ptrNil : Sub R (.pointer none) (.pointer none)
 | ptr {i j o : Nat} {sp : Option Nat} (h : R i sp j) : Sub R (.pointer (some ⟨i, o, sp⟩)) (.pointer (some ⟨j, o, sp⟩))
 | sliceNil : Sub R (.slice none 0 0) (.slice none 0 0)
 | slice {i j o n sz : Nat} {sp : Option Nat} (h : R i sp j) : Sub R (.slice (some ⟨i, o, sp⟩) n sz) (.slice (some ⟨j, o, sp⟩) n sz)
 | mapNil : Sub R (.map none) (.map none)
 | map {i j : Nat} (h : R i none j) : Sub R (.map (some i)) (.map (some j))
 | chan (c : Option Nat) : Sub R (.chan c) (.chan c)
 | func {f f' : Fn} {a a' c c' : Array Value} (h : FnS R f f') (ha : Subs R a.toList a'.toList) (hc : Subs R c.toList c'.toList) : Sub R (.func f a c) (.func f' a' c')
 | nilFunc : Sub R .nilFunc .nilFunc
 | iface {t : TypeId} {v v' : Value} (h : Sub R v v') : Sub R (.iface t v) (.iface t v')
 | nilIface : Sub R .nilIface .nilIface
 | agg {a a' : Array Value} (h : Subs R a.toList a'.toList) : Sub R (.agg a) (.agg a')
 | tuple {a a' : Array Value} (h : Subs R a.toList a'.toList) : Sub R (.tuple a) (.tuple a')
 | junk (c : Nat) {v : Value} (h : refy v = true) (hc : dec c = none) : Sub R v (.chan (some c))
 | tok {c c' : Nat} (h : ∀ I v, (∀ i, dec c = some i → InlR I i v) → ∀ i, dec c' = some i → InlR I i v) : Sub R (.chan (some c)) (.chan (some c'))
 | nilTok {c : Nat} (h : ∀ I i, dec c = some i → InlR I i (.slice none 0 0)) : Sub R (.slice none 0 0) (.chan (some c))
inductive Subs (R : Nat → Option Nat → Nat → Prop) : List Value → List Value → Prop where
 | nil : Subs R [] []
 | cons {v v' : Value} {l l' : List Value} (h : Sub R v v') (t : Subs R l l') : Subs R (v :: l) (v' :: l')
end
theorem VR.refy {β : Bij} {v v' : Value} (h : VR β v v') (hr : Ai.refy v = true) : Ai.refy v' = true := by
 cases h <;> first
  | rfl
  | assumption
  | (simp [Ai.refy] at hr)
section
variable {β β2 : Bij} {R : Nat → Option Nat → Nat → Prop}
structure Moves (R : Nat → Option Nat → Nat → Prop) (β β2 : Bij) : Prop where
 at_ : ∀ i sp j, R i sp j → (sp = none → ∀ b, β.obj i = some b → β2.obj j = some b) ∧ ∀ hi, sp = some hi → ∀ L, β.arr i hi = some L → β2.arr j hi = some L
 vir : ∀ i sp j, R i sp j → β.vir i → β2.vir j
 ice : ∀ b j v, β.ice b j v → β2.ice b j v
theorem FnS.vr (hR : Moves R β β2) {f f' g : Fn} (h : FnS R f f') (hv : FnR β f g) : FnR β2 f' g := by
  cases h with
  | same _ h =>
    cases hv with
    | same _ h' => exact .same _ h'
    | yield _ => exact absurd rfl (h _)
  | yield h =>
    cases hv with
    | same _ h' => exact absurd rfl (h' _)
    | yield h' => exact .yield ((hR.at_ _ _ _ h).1 rfl _ h')
mutual
theorem Sub.vr (hR : Moves R β β2) : ∀ {a b x : Value}, Sub R a b → VR β a x → VR β2 b x
 | _, _, _, .bool _, .bool _ => .bool _
 | _, _, _, .int _ _, .int _ _ => .int _ _
 | _, _, _, .float _ _, .float _ _ => .float _ _
 | _, _, _, .complex _ _ _, .complex _ _ _ h => .complex _ _ _ h
 | _, _, _, .string _, .string _ => .string _
 | _, _, _, .ptrNil, .ptrNil => .ptrNil
 | _, _, _, .ptr h, .ptrObj h' => .ptrObj ((hR.at_ _ _ _ h).1 rfl _ h')
 | _, _, _, .ptr h, .ptrArr h' h1 => .ptrArr ((hR.at_ _ _ _ h).2 _ rfl _ h') h1
 | _, _, _, .sliceNil, .sliceNil => .sliceNil
 | _, _, _, .slice h, .sliceObj h' hz hc => .sliceObj ((hR.at_ _ _ _ h).1 rfl _ h') hz hc
 | _, _, _, .slice h, .sliceArr h' h1 h2 hz hs hc hb => .sliceArr ((hR.at_ _ _ _ h).2 _ rfl _ h') h1 h2 hz hs hc hb
 | _, _, _, .mapNil, .mapNil => .mapNil
 | _, _, _, .map h, .map h' => .map ((hR.at_ _ _ _ h).1 rfl _ h')
 | _, _, _, .chan _, .chanNil => .chanNil
 | _, _, _, .slice h, .sliceVir h' hz h0 => .sliceVir (hR.vir _ _ _ h h') hz h0
 | _, _, _, .chan _, .junk _ h hf => .junk _ h fun i hi => (hf i hi).mono hR.ice
 | _, _, _, .func h ha hc, .func h' ha' hc' => .func (h.vr hR h') (Subs.vr hR ha ha') (Subs.vr hR hc hc')
 | _, _, _, .nilFunc, .nilFunc => .nilFunc
 | _, _, _, .iface h, .iface h' => .iface (Sub.vr hR h h')
 | _, _, _, .nilIface, .nilIface => .nilIface
 | _, _, _, .agg h, .agg h' => .agg (Subs.vr hR h h')
 | _, _, _, .tuple h, .tuple h' => .tuple (Subs.vr hR h h')
 | _, _, _, .junk c h hc, h' => .junk c (h'.refy h) fun i hi => by rw [hc] at hi; cases hi
 | _, _, _, .tok h, .junk _ h1 hf => .junk _ h1 fun i hi => (h _ _ hf i hi).mono hR.ice
 | _, _, _, .nilTok h, .sliceNil => .junk _ rfl fun i hi => h _ i hi
theorem Subs.vr (hR : Moves R β β2) : ∀ {a b x : List Value}, Subs R a b → VRs β a x → VRs β2 b x
 | _, _, _, .nil, .nil => .nil
 | _, _, _, .cons h t, .cons h' t' => .cons (Sub.vr hR h h') (Subs.vr hR t t')
end
theorem Sub.mono {R' : Nat → Option Nat → Nat → Prop} (hR : ∀ i sp j, R i sp j → R' i sp j) : ∀ {a b : Value}, Sub R a b → Sub R' a b := by
 have fn : ∀ {f f' : Fn}, FnS R f f' → FnS R' f f' := fun h => by
  cases h with
  | same _ h => exact .same _ h
  | yield h => exact .yield (hR _ _ _ h)
 intro a b h;exact h.rec (motive_1 := fun a b _ => Sub R' a b) (motive_2 := fun a b _ => Subs R' a b)
  .bool .int .float .complex .string .ptrNil (fun h => .ptr (hR _ _ _ h)) .sliceNil (fun h => .slice (hR _ _ _ h)) .mapNil (fun h => .map (hR _ _ _ h)) .chan
  (fun h _ _ ha hc => .func (fn h) ha hc) .nilFunc (fun _ ih => .iface ih) .nilIface (fun _ ih => .agg ih) (fun _ ih => .tuple ih) (fun c _ h hc => .junk c h hc) (fun h => .tok h) (fun h => .nilTok h) .nil (fun _ _ h t => .cons h t)
theorem Subs.mono {R' : Nat → Option Nat → Nat → Prop} (hR : ∀ i sp j, R i sp j → R' i sp j) : ∀ {a b : List Value}, Subs R a b → Subs R' a b
 | _, _, .nil => .nil
 | _, _, .cons h t => .cons (h.mono hR) (t.mono hR)
theorem Subs.append : ∀ {a b c d : List Value}, Subs R a b → Subs R c d → Subs R (a ++ c) (b ++ d)
 | _, _, _, _, .nil, h => h
 | _, _, _, _, .cons h t, h' => .cons h (t.append h')
def erase : Value → Value
 | .pointer _ | .slice _ _ _ | .map _ | .chan _ | .func _ _ _ | .nilFunc | .iface _ _ | .nilIface => .chan (some 0)
 | .bool b => .bool b
 | .int k n => .int k n
 | .float k n => .float k n
 | .complex k a b => .complex k a b
 | .string s => .string s
 | .agg a => .agg (eraseL a.toList).toArray
 | .tuple a => .tuple (eraseL a.toList).toArray
where
 eraseL : List Value → List Value
 | [] => []
 | v :: r => erase v :: eraseL r
mutual
theorem sub_erase : ∀ (v : Value), Sub R v (erase v)
 | .pointer _ => by unfold erase; exact .junk 0 rfl dec_zero
 | .slice _ _ _ => by unfold erase; exact .junk 0 rfl dec_zero
 | .map _ => by unfold erase; exact .junk 0 rfl dec_zero
 | .chan _ => by unfold erase; exact .junk 0 rfl dec_zero
 | .func _ _ _ => by unfold erase; exact .junk 0 rfl dec_zero
 | .nilFunc => by unfold erase; exact .junk 0 rfl dec_zero
 | .iface _ _ => by unfold erase; exact .junk 0 rfl dec_zero
 | .nilIface => by unfold erase; exact .junk 0 rfl dec_zero
 | .bool _ => by unfold erase; exact .bool _
 | .int _ _ => by unfold erase; exact .int _ _
 | .float _ _ => by unfold erase; exact .float _ _
 | .complex _ _ _ => by unfold erase; exact .complex _ _ _
 | .string _ => by unfold erase; exact .string _
 | .agg ⟨l⟩ => by unfold erase; exact .agg (subs_erase l)
 | .tuple ⟨l⟩ => by unfold erase; exact .tuple (subs_erase l)
theorem subs_erase : ∀ (l : List Value), Subs R l (erase.eraseL l)
 | [] => by unfold erase.eraseL; exact .nil
 | v :: l => by unfold erase.eraseL; exact .cons (sub_erase v) (subs_erase l)
end
structure ESub (R : Nat → Option Nat → Nat → Prop) (e e2 : Env) : Prop where
 n : e2.n = e.n
 at_ : ∀ j, j < e.n → Sub R (e.get j) (e2.get j)
theorem ESub.er {e e2 : Env} {t : Array Value} (hR : Moves R β β2) (h : ESub R e e2) (he : ER β e t) : ER β2 e2 t :=
 ⟨he.size.trans h.n.symm, fun j hj => (h.at_ j (h.n ▸ hj)).vr hR (he.at_ j (h.n ▸ hj))⟩
inductive EntsS (R : Nat → Option Nat → Nat → Prop) : List MapEntry → List MapEntry → Prop where
 | nil : EntsS R [] []
 | cons {k v v' : Value} {b : Nat} {l l' : List MapEntry} (h : Sub R v v') (t : EntsS R l l') : EntsS R (⟨k, v, b⟩ :: l) (⟨k, v', b⟩ :: l')
theorem EntsS.vr (hR : Moves R β β2) : ∀ {a b x : List MapEntry}, EntsS R a b → EntsR β a x → EntsR β2 b x
 | _, _, _, .nil, .nil => .nil
 | _, _, _, .cons h t, .cons h' t' => .cons ⟨h'.key, h'.plain, h.vr hR h'.val, h'.born⟩ (t.vr hR t')
inductive OSub (R : Nat → Option Nat → Nat → Prop) : AObj → AObj → Prop where
 | cells {cs cs2 : List Value} {ty : Option TypeId} (h : Subs R cs cs2) : OSub R (.cells cs ty) (.cells cs2 ty)
 | arr {cs cs2 : List Value} {mv : Nat} {ro : Bool} (h : Subs R cs cs2) : OSub R (.arr cs mv ro) (.arr cs2 mv ro)
 | map {es es2 : List MapEntry} {clock : Nat} (h : EntsS R es es2) : OSub R (.map es clock) (.map es2 clock)
 | iterNil {since stepped : Nat} {seen : List Nat} : OSub R (.iter none since seen stepped) (.iter none since seen stepped)
 | iter {i j since stepped : Nat} {seen : List Nat} (h : R i none j) : OSub R (.iter (some i) since seen stepped) (.iter (some j) since seen stepped)
 | siter {s : ByteArray} {pos : Nat} : OSub R (.siter s pos) (.siter s pos)
theorem Subs.get : ∀ {a b : List Value}, Subs R a b → ∀ {j : Nat} {v : Value}, a[j]? = some v → ∃ v2, b[j]? = some v2 ∧ Sub R v v2
  | _, _, .nil, j, v, h => Z21
  | _, _, .cons h t, j, v, hv => by
    cases j with
    | zero => simp at hv; subst hv; exact ⟨_, rfl, h⟩
    | succ j => simp at hv; simpa using t.get hv
theorem Subs.length : ∀ {a b : List Value}, Subs R a b → b.length = a.length
 | _, _, .nil => rfl
 | _, _, .cons _ t => by simp [t.length]
theorem OSub.obj (hR : Moves R β β2) {K : Code → Prop} {o o2 : AObj} {x : Option Obj} (h : OSub R o o2) (ho : ObjR β K o x) : ObjR β2 K o2 x := by
 cases h with
 | cells h => obtain ⟨c, t, h1, h2, h3⟩ := ho; exact ⟨c, t, h1, h.vr hR h2, h3⟩
 | arr h => exact ho.elim
 | map h => obtain ⟨es', h1, h2⟩ := ho; exact ⟨es', h1, h.vr hR h2⟩
 | iterNil => exact ho
 | iter h => obtain ⟨b, h1, h2⟩ := ho; exact ⟨b, (hR.at_ _ _ _ h).1 rfl _ h1, h2⟩
 | siter => exact ho
theorem arr_moves (hR : Moves R β β2) {L : ArrLoc} {cs cs2 : List Value} {hi : Nat} {ro : Bool} {x : Option Obj} (h : Subs R cs cs2) (ho : ArrR β L cs hi ro x) : ArrR β2 L cs2 hi ro x := by
 obtain ⟨a, b, c, t, fr, h1, h2, h3, h4⟩ := ho;refine ⟨a, b, c, t, fr, h1, h2, h3, fun j x y => ?_⟩;obtain ⟨v, v', p, q, r⟩ := h4 j x y;obtain ⟨v2, p2, r2⟩ := h.get p;exact ⟨v2, v', p2, q, r2.vr hR r⟩
def ORel (R : Nat → Option Nat → Nat → Prop) : Option AObj → Option AObj → Prop
 | none, none => True
 | some o, some o2 => OSub R o o2
 | _, _ => False
end
end Go.Ai
/-
  A call, or a part of the code, that was looked at in a small memory, in a large one.
-/
namespace Go.Ai
open Classical
def RoAt (s : St) (j : Nat) : Prop := ∃ cs mv, s.get j = some (.arr cs mv true)
structure Fit (G k : Nat) (ρ : Nat → Nat) (s s0 : St) : Prop where
 num : s0.n = k
 inj : ∀ i j, i < k → j < k → ρ i = ρ j → i = j ∨ RoAt s (ρ i)
 lt : ∀ i, i < k → ρ i < s.n
 obj : ∀ i, i < k → ORel (fun j _ i => i < k ∧ ρ i = j) (s.get (ρ i)) (s0.get i)
 glob : ∀ g, g < gl G → g < k ∧ ρ g = g
 wf : s0.WF
def Ways (k : Nat) (ρ : Nat → Nat) (τ : Nat → Option Nat) (W : Nat → Nat → Prop) (i : Nat) (sp : Option Nat) (j : Nat) : Prop := τ i = some j ∨ (i < k ∧ τ i = none ∧ ρ i = j ∧ ∃ hi, sp = some hi ∧ W j hi)
structure Back (k : Nat) (ρ : Nat → Nat) (W : Nat → Nat → Prop) (s s0 s0' : St) (τ : Nat → Option Nat) (s' : St) : Prop where
 old : ∀ i, i < k → τ i = some (ρ i) ∨ (τ i = none ∧ RoAt s (ρ i) ∧ s'.get (ρ i) = s.get (ρ i))
 cons : ∀ i i', i < k → i' < k → ρ i = ρ i' → τ i = none → τ i' = none
 new : ∀ i j, k ≤ i → τ i = some j → i < s0'.n ∧ s.n ≤ j ∧ j < s'.n
 inj : ∀ i i' j, τ i = some j → τ i' = some j → i = i'
 obj : ∀ i j, τ i = some j → ORel (Ways k ρ τ W) (s0'.get i) (s'.get j)
 rest : ∀ j, j < s.n → (∀ i, i < k → ρ i ≠ j) → s'.get j = s.get j
 n : s.n ≤ s'.n
 wf : s'.WF
 grow : Grow s s'
noncomputable def inB (k : Nat) (ρ : Nat → Nat) (β : Bij) : Bij := ⟨fun i => if i < k then β.obj (ρ i) else none, fun i hi => if i < k then β.arr (ρ i) hi else none, fun i => i < k ∧ β.vir (ρ i), β.ice, β.fix⟩
noncomputable def inO (k N : Nat) (ρ : Nat → Nat) (own : Nat → Option Nat) : Nat → Option Nat := fun b => match own b with
 | none => none
 | some j => some (if h : ∃ i, i < k ∧ ρ i = j then h.choose else N + j)
noncomputable def pick {α : Type} (τ : Nat → Option Nat) (f g : Nat → α) (j : Nat) : α := if h : ∃ i, τ i = some j then f h.choose else g j
theorem pick_at {α : Type} {τ : Nat → Option Nat} (inj : ∀ i i' j, τ i = some j → τ i' = some j → i = i') {f g : Nat → α} {i j : Nat} (h : τ i = some j) : pick τ f g j = f i := by
 have hx : ∃ i, τ i = some j := ⟨i, h⟩;unfold pick;rw [dif_pos hx, inj _ _ _ hx.choose_spec h]
theorem pick_not {α : Type} {τ : Nat → Option Nat} {f g : Nat → α} {j : Nat} (h : ∀ i, τ i ≠ some j) : pick τ f g j = g j := by
 unfold pick;rw [dif_neg (fun ⟨i, hi⟩ => h i hi)]
section
variable {K : Code → Prop} {G k N : Nat} {ρ : Nat → Nat} {s s0 : St} {β : Bij} {own : Nat → Option Nat} {w : World}
theorem inB_obj {i b : Nat} (h : (inB k ρ β).obj i = some b) : i < k ∧ β.obj (ρ i) = some b := by
 by_cases hi : i < k
 ·simp only [inB, if_pos hi] at h; exact ⟨hi, h⟩
 ·simp only [inB, if_neg hi] at h; cases h
theorem inB_arr {i hi : Nat} {L : ArrLoc} (h : (inB k ρ β).arr i hi = some L) : i < k ∧ β.arr (ρ i) hi = some L := by
 by_cases hk : i < k
 ·simp only [inB, if_pos hk] at h; exact ⟨hk, h⟩
 ·simp only [inB, if_neg hk] at h; cases h
theorem inB_dom {i : Nat} (h : (inB k ρ β).dom i) : i < k ∧ β.dom (ρ i) := by
 rcases h with ⟨b, hb⟩ | ⟨hi, L, hL⟩ | hv
 ·exact ⟨(inB_obj hb).1, .inl ⟨b, (inB_obj hb).2⟩⟩
 ·exact ⟨(inB_arr hL).1, .inr ⟨hi, L, (inB_arr hL).2⟩⟩
 ·exact ⟨hv.1, .vir hv.2⟩
theorem in_moves : Moves (fun j _ i => i < k ∧ ρ i = j) β (inB k ρ β) := by
 refine ⟨?_, ?_, fun _ _ _ h => h⟩
 ·rintro j sp i ⟨hi, rfl⟩;exact ⟨fun _ b hb => by simp only [inB, if_pos hi]; exact hb, fun hh _ L hL => by simp only [inB, if_pos hi]; exact hL⟩
 ·rintro j sp i ⟨hi, rfl⟩ hv;exact ⟨hi, hv⟩
theorem inO_none {b : Nat} (h : own b = none) : inO k N ρ own b = none := by simp only [inO, h]
theorem inO_at {b i : Nat} (hi : i < k) (inj : ∀ j, j < k → ρ j = ρ i → j = i) (h : own b = some (ρ i)) : inO k N ρ own b = some i := by
 have hx : ∃ i', i' < k ∧ ρ i' = ρ i := ⟨i, hi, rfl⟩;simp only [inO, h, dif_pos hx];exact congrArg some (inj _ hx.choose_spec.1 hx.choose_spec.2)
theorem inO_far {b j : Nat} (hj : ∀ i, i < k → ρ i ≠ j) (h : own b = some j) : inO k N ρ own b = some (N + j) := by
 have hx : ¬ ∃ i, i < k ∧ ρ i = j := fun ⟨i, h1, h2⟩ => hj i h1 h2
 simp only [inO, h, dif_neg hx]
theorem inO_some {b i : Nat} (h : inO k N ρ own b = some i) : ∃ j, own b = some j := by
 cases ho : own b with
 | none => rw [inO_none ho] at h; cases h
 | some j => exact ⟨j, rfl⟩
theorem in_sr (F : Fit G k ρ s s0) (hs : SR K β own s.get w) : SR K (inB k ρ β) (inO k N ρ own) s0.get w where
  obj i b hb := by
    obtain ⟨hi, hb⟩ := inB_obj hb;obtain ⟨h1, h2, h3⟩ := hs.obj _ _ hb;have hinj : ∀ j, j < k → ρ j = ρ i → j = i := fun j hj e => by
      rcases F.inj j i hj hi e with h | ⟨cs, mv, h⟩
      · exact h
      · rw [e] at h
        exact (h3 _ h).elim
    refine ⟨inO_at hi hinj h1, h2, fun o ho => ?_⟩;have hr := F.obj i hi;rw [ho] at hr;cases hg : s.get (ρ i) with
    | none => rw [hg] at hr; exact hr.elim
    | some o1 => rw [hg] at hr; exact OSub.obj in_moves hr (h3 o1 hg)
  arr i hi L hL cs mv ro hc := by
    obtain ⟨hk, hL⟩ := inB_arr hL;have hr := F.obj i hk;rw [hc] at hr;cases hg : s.get (ρ i) with
    | none => rw [hg] at hr; exact hr.elim
    | some o1 =>
      rw [hg] at hr;cases hr with
      | @arr cs1 _ _ _ hsub =>
        obtain ⟨q1, q2⟩ := hs.arr _ hi L hL cs1 mv ro hg;refine ⟨by rw [hsub.length]; exact q1, fun hm => ?_⟩;obtain ⟨r1, r2, r3⟩ := q2 hm;refine ⟨arr_moves in_moves hsub r1, r2, ?_⟩;cases ro with
        | true => exact inO_none r3
        | false =>
          refine inO_at hk (fun j hj e => ?_) r3;rcases F.inj j i hj hk e with h | ⟨cs', mv', h⟩
          · exact h
          · rw [e, hg] at h
            cases h
  loc i hi hi' L L' h1 h2 h3 := hs.loc _ _ _ _ _ (inB_arr h1).2 (inB_arr h2).2 h3
  blk i hi L h := hs.blk _ _ _ (inB_arr h).2
  one i h h' := by
    obtain ⟨b, hb⟩ := h;obtain ⟨hi, L, hL⟩ := h';exact hs.one _ ⟨b, (inB_obj hb).2⟩ ⟨hi, L, (inB_arr hL).2⟩
  small b i h := by
    obtain ⟨j, hj⟩ := inO_some h;exact hs.small _ _ hj
  vir i h h' := by
    obtain ⟨b, hb⟩ := h;exact hs.vir _ ⟨b, (inB_obj hb).2⟩ h'.2
  ice := ⟨fun b j v h => by
    obtain ⟨q1, q2, q3, q4, x, q5, q6⟩ := hs.ice.at_ b j v h;exact ⟨inO_none q1, q2, q3, q4, x, q5, VR.clo (β := β) (β' := inB k ρ β) (fun _ _ _ h => h) q3 q6⟩, fun b n h => by
    obtain ⟨q1, q2, q3⟩ := hs.ice.fx b n h;exact ⟨inO_none q1, q2, q3⟩⟩
theorem in_shut (F : Fit G k ρ s s0) : Shut (inB k ρ β) s0 := fun i h => by rw [F.num]; exact (inB_dom h).1
theorem in_glob (F : Fit G k ρ s s0) (hG : Glob β G) : Glob (inB k ρ β) G where
 one g hg := by
  obtain ⟨h1, h2⟩ := F.glob g hg;obtain ⟨L, h3, h4⟩ := hG.one g hg;exact ⟨L, by simp only [inB, if_pos h1, h2]; exact h3, h4⟩
 tab hg := ⟨(hG.tab hg).fx, (hG.tab hg).ic⟩
 err := hG.err
 mx := hG.mx
theorem frame_out (F : Fit G k ρ s s0) (hs : SR K β own s.get w) {s' s0' : St} (hfree : Free β s s') {β0 : Bij} {own0 : Nat → Option Nat} {w' : World}
    (e0 : Ext (inB k ρ β) (inO k N ρ own) s0 w β0 own0 s0' w') (hs0 : SR K β0 own0 s0'.get w') (hN : s0'.n ≤ N) {τ : Nat → Option Nat} {W : Nat → Nat → Prop} (B : Back k ρ W s s0 s0' τ s') (hW : ∀ j hi, W j hi → ∃ L, β.arr j hi = some L)
    (hsame : ∀ i, i < k → ¬ β.dom (ρ i) → s0'.get i = s0.get i → s'.get (ρ i) = s.get (ρ i)) :
    ∃ β' own', Ext β own s w β' own' s' w' ∧ SR K β' own' s'.get w' ∧ Moves (Ways k ρ τ W) β0 β' ∧ ∀ b, own0 b = none → own' b = none := by
  have hsh : Shut β0 s0' := (in_shut (β := β) F).ext e0;have hk : s0.n = k := F.num;have hkn : k ≤ s0'.n := hk ▸ e0.nle;have far : ∀ j, β.dom j → (∀ i, i < k → ρ i ≠ j) → ∀ i, τ i ≠ some j := by
    intro j hd hj i hi;by_cases hik : i < k
    · rcases B.old i hik with h | ⟨h, _⟩
      · rw [h] at hi
        exact hj i hik (Option.some.inj hi)
      · rw [h] at hi; cases hi
    · obtain ⟨_, h2, h3⟩ := B.new i j Z4 hi
      rcases hfree j hd with h | h <;> omega
  have farN : ∀ j, s'.n ≤ j → ∀ i, τ i ≠ some j := by
    intro j hj i hi;by_cases hik : i < k
    · rcases B.old i hik with h | ⟨h, _⟩
      · rw [h] at hi
        have := F.lt i hik;have := Option.some.inj hi;have := B.n;omega
      · rw [h] at hi; cases hi
    · obtain ⟨_, h2, h3⟩ := B.new i j Z4 hi
      omega
  let βo : Nat → Option Nat := pick τ β0.obj fun j => if j < s.n ∨ s'.n ≤ j then β.obj j else none
  let βa : Nat → Nat → Option ArrLoc := pick τ β0.arr fun j hi => if j < s.n ∨ s'.n ≤ j then β.arr j hi else none
  let own' : Nat → Option Nat := fun b => match own0 b with
    | none => none
    | some i => if i < N then τ i else some (i - N)
  have atO : ∀ {i j}, τ i = some j → βo j = β0.obj i := fun h => pick_at B.inj h
  have atA : ∀ {i j}, τ i = some j → βa j = β0.arr i := fun h => pick_at B.inj h
  have notO : ∀ {j}, (∀ i, τ i ≠ some j) → βo j = if j < s.n ∨ s'.n ≤ j then β.obj j else none := fun h => pick_not h
  have notA : ∀ {j}, (∀ i, τ i ≠ some j) → βa j = fun hi => if j < s.n ∨ s'.n ≤ j then β.arr j hi else none := fun h => pick_not h
  have foreign : ∀ b j, own b = some j → (∀ i, i < k → ρ i ≠ j) → own' b = some j ∧ w'.heap[b]? = w.heap[b]? := by
    intro b j hb hj;have h1 := inO_far (N := N) hj hb;obtain ⟨h2, h3⟩ := e0.cframe b (hs.small _ _ hb) fun i hi => by
      rw [h1] at hi;have := Option.some.inj hi;omega
    refine ⟨?_, h3⟩;show (match own0 b with | none => none | some i => if i < N then τ i else some (i - N)) = some j;rw [h2, h1];simp only;rw [if_neg Z4, show N + j - N = j from Z4]
  have nobody : ∀ b, b < w.heap.size → own b = none → own' b = none ∧ w'.heap[b]? = w.heap[b]? := by
    intro b hb ho;obtain ⟨h2, h3⟩ := e0.cframe b hb fun i hi => by rw [inO_none ho] at hi; cases hi
    refine ⟨?_, h3⟩;show (match own0 b with | none => none | some i => if i < N then τ i else some (i - N)) = none;rw [h2, inO_none ho]
  have mine : ∀ b i j, own0 b = some i → β0.dom i → τ i = some j → own' b = some j := by
    intro b i j hb hd hi;show (match own0 b with | none => none | some i => if i < N then τ i else some (i - N)) = some j;rw [hb];simp only;rw [if_pos (Nat.lt_of_lt_of_le (hsh i hd) hN), hi]
  have kept : ∀ i, i < k → τ i = none → ∀ i', τ i' ≠ some (ρ i) := by
    intro i hi hn i' h;by_cases hi' : i' < k
    · rcases B.old i' hi' with h' | ⟨h', _⟩
      · rw [h'] at h
        have := B.cons i i' hi hi' (Option.some.inj h).symm hn;rw [this] at h'; cases h'
      · rw [h'] at h; cases h
    · obtain ⟨_, h2, _⟩ := B.new i' _ Z4 h
      have := F.lt i hi;omega
  let βv : Nat → Prop := fun j => (∃ i, τ i = some j ∧ β0.vir i) ∨ ((∀ i, τ i ≠ some j) ∧ (j < s.n ∨ s'.n ≤ j) ∧ β.vir j)
  have oldv : ∀ i, i < k → β0.vir i → β.vir (ρ i) := fun i hi h => by
    rcases e0.virn i h with h | h
    · exact h.2
    · omega
  have moves : Moves (Ways k ρ τ W) β0 ⟨βo, βa, βv, β0.ice, β0.fix⟩ := by
    refine ⟨?_, ?_, fun _ _ _ h => h⟩
    rotate_right
    · rintro i sp j (hij | ⟨hi, hn, rfl, _⟩) hv
      · exact .inl ⟨i, hij, hv⟩
      · exact .inr ⟨kept i hi hn, .inl (F.lt i hi), oldv i hi hv⟩
    rintro i sp j (hij | ⟨hi, hn, rfl, hh, rfl, hw⟩)
    · exact ⟨fun _ b hb => (atO hij).trans hb, fun hi _ L hL => (congrFun (atA hij) hi).trans hL⟩
    · refine ⟨(fun h => Z02), fun hi' e L hL => ?_⟩
      cases e;obtain ⟨L0, hL0⟩ := hW _ _ hw;have h1 : β0.arr i hh = some L0 := e0.le.right _ _ _ (by simp only [inB, if_pos hi]; exact hL0);show βa (ρ i) hh = some L;rw [← Option.some.inj (h1.symm.trans hL)];rw [notA (kept i hi hn)];simp only;rw [if_pos (.inl (F.lt i hi))];exact hL0
  have leO : ∀ i b, β.obj i = some b → βo i = some b := by
    intro j b hb;by_cases hj : ∃ i, i < k ∧ ρ i = j
    · obtain ⟨i, hi, rfl⟩ := hj
      rcases B.old i hi with h | ⟨h, _⟩
      · rw [atO h]
        exact e0.le.left _ _ (by simp only [inB, if_pos hi]; exact hb)
      · rw [notO (kept i hi h), if_pos (.inl (F.lt i hi))]
        exact hb
    · have hd : β.dom j := .inl ⟨b, hb⟩
      rw [notO (far j hd fun i hi h => hj ⟨i, hi, h⟩), if_pos (hfree j hd)];exact hb
  have leA : ∀ i hi L, β.arr i hi = some L → βa i hi = some L := by
    intro j hi L hL;by_cases hj : ∃ i, i < k ∧ ρ i = j
    · obtain ⟨i, hk, rfl⟩ := hj
      rcases B.old i hk with h | ⟨h, _⟩
      · rw [atA h]
        exact e0.le.right _ _ _ (by simp only [inB, if_pos hk]; exact hL)
      · rw [notA (kept i hk h)]
        simp only;rw [if_pos (.inl (F.lt i hk))];exact hL
    · have hd : β.dom j := .inr ⟨hi, L, hL⟩
      rw [notA (far j hd fun i hi h => hj ⟨i, hi, h⟩)];simp only;rw [if_pos (hfree j hd)];exact hL
  have leV : ∀ i, β.vir i → βv i := by
    intro j hv;by_cases hj : ∃ i, i < k ∧ ρ i = j
    · obtain ⟨i, hi, rfl⟩ := hj
      rcases B.old i hi with h | ⟨h, _⟩
      · exact .inl ⟨i, h, e0.le.vir i ⟨hi, hv⟩⟩
      · exact .inr ⟨kept i hi h, .inl (F.lt i hi), hv⟩
    · exact .inr ⟨far j (.vir hv) fun i hi h => hj ⟨i, hi, h⟩, hfree j (.vir hv), hv⟩
  have le : β.le ⟨βo, βa, βv, β0.ice, β0.fix⟩ := ⟨leO, leA, leV, e0.le.ice, e0.le.fix⟩;have domO : ∀ {j b}, βo j = some b → (∃ i, τ i = some j ∧ β0.obj i = some b) ∨ ((∀ i, τ i ≠ some j) ∧ β.obj j = some b ∧ (j < s.n ∨ s'.n ≤ j)) := by
    intro j b hb;by_cases hj : ∃ i, τ i = some j
    · obtain ⟨i, hi⟩ := hj
      exact .inl ⟨i, hi, (atO hi).symm.trans hb⟩
    · have hn : ∀ i, τ i ≠ some j := fun i hi => hj ⟨i, hi⟩
      rw [notO hn] at hb;split at hb
      · rename_i h; exact .inr ⟨hn, hb, h⟩
      · cases hb
  have domA : ∀ {j hi L}, βa j hi = some L → (∃ i, τ i = some j ∧ β0.arr i hi = some L) ∨ ((∀ i, τ i ≠ some j) ∧ β.arr j hi = some L ∧ (j < s.n ∨ s'.n ≤ j)) := by
    intro j hi L hL;by_cases hj : ∃ i, τ i = some j
    · obtain ⟨i, hi'⟩ := hj
      exact .inl ⟨i, hi', (congrFun (atA hi') hi).symm.trans hL⟩
    · have hn : ∀ i, τ i ≠ some j := fun i hi => hj ⟨i, hi⟩
      rw [notA hn] at hL;simp only at hL;split at hL
      · rename_i h; exact .inr ⟨hn, hL, h⟩
      · cases hL
  have outside : ∀ {j}, (∀ i, τ i ≠ some j) → (∀ i, i < k → ρ i ≠ j) ∨ (RoAt s j ∧ s'.get j = s.get j) := by
    intro j hn;by_cases hx : ∃ i, i < k ∧ ρ i = j
    · obtain ⟨i, hi, rfl⟩ := hx
      rcases B.old i hi with h | ⟨_, h⟩
      · exact absurd h (hn i)
      · exact .inr h
    · exact .inl fun i hi h => hx ⟨i, hi, h⟩
  have getFar : ∀ {j}, (∀ i, τ i ≠ some j) → (j < s.n ∨ s'.n ≤ j) → ∀ {o}, s'.get j = some o → s.get j = some o := by
    intro j hn hj o ho;rcases hj with h | h
    · rcases outside hn with h' | ⟨_, h'⟩
      · rw [← B.rest j h h']; exact ho
      · rw [← h']; exact ho
    · rw [B.wf j h] at ho; cases ho
  refine ⟨⟨βo, βa, βv, β0.ice, β0.fix⟩, own', ?_, ?_, moves, fun b hb => ?_⟩
  · refine ⟨le, ?_, B.n, ?_, e0.size, ?_, e0.os, e0.tape, e0.output, ?_, ?_, e0.drawn⟩
    · intro j hd
      have key : (∃ i, τ i = some j ∧ β0.dom i) ∨ β.dom j := by
        rcases hd with ⟨b, hb⟩ | ⟨hi, L, hL⟩ | hv
        rotate_right
        · rcases hv with ⟨i, h1, h2⟩ | ⟨_, _, h2⟩
          · exact .inl ⟨i, h1, .vir h2⟩
          · exact .inr (.vir h2)
        · rcases domO hb with ⟨i, h1, h2⟩ | ⟨_, h2, _⟩
          · exact .inl ⟨i, h1, .inl ⟨b, h2⟩⟩
          · exact .inr (.inl ⟨b, h2⟩)
        · rcases domA hL with ⟨i, h1, h2⟩ | ⟨_, h2, _⟩
          · exact .inl ⟨i, h1, .inr ⟨hi, L, h2⟩⟩
          · exact .inr (.inr ⟨hi, L, h2⟩)
      rcases key with ⟨i, h1, h2⟩ | h
      · by_cases hi : i < k
        · rcases B.old i hi with h | ⟨h, _⟩
          · rw [h] at h1
            obtain rfl := Option.some.inj h1;rcases e0.new i h2 with h3 | h3
            · exact .inl (inB_dom h3).2
            · omega
          · rw [h] at h1; cases h1
        · obtain ⟨_, h3, h4⟩ := B.new i j Z4 h1
          exact .inr ⟨h3, h4⟩
      · exact .inl h
    · intro j hj hd
      by_cases hx : ∃ i, i < k ∧ ρ i = j
      · obtain ⟨i, hi, rfl⟩ := hx
        rcases B.old i hi with _ | ⟨_, _, h⟩
        · exact hsame i hi hd (e0.aframe i (hk ▸ hi) fun h => hd (inB_dom h).2)
        · exact h
      · exact B.rest j hj fun i hi h => hx ⟨i, hi, h⟩
    · intro b hb ho
      cases hob : own b with
      | none => exact nobody b hb hob
      | some j =>
        have hj := ho j hob;exact foreign b j hob fun i hi h => by have := F.lt i hi; have := B.n; omega
    · intro j hj
      have hn := farN j hj;refine ⟨?_, ?_, ?_⟩
      rotate_right
      · show βv j = β.vir j
        refine propext ⟨?_, fun h => .inr ⟨hn, .inr hj, h⟩⟩;rintro (⟨i, h1, _⟩ | ⟨_, _, h⟩)
        · exact absurd h1 (hn i)
        · exact h
      · show βo j = β.obj j
        rw [notO hn, if_pos (.inr hj)]
      · show βa j = β.arr j
        rw [notA hn];funext hi
        exact if_pos (.inr hj)
    · rintro j (⟨i, h1, h2⟩ | ⟨_, _, h2⟩)
      · by_cases hi : i < k
        · rcases B.old i hi with h | ⟨h, _⟩
          · rw [h] at h1
            obtain rfl := Option.some.inj h1;exact .inl (oldv i hi h2)
          · rw [h] at h1; cases h1
        · exact .inr (B.new i j Z4 h1).2.1
      · exact .inl h2
  · refine ⟨?_, ?_, ?_, ?_, ?_, ?_, ?_, ?_⟩
    rotate_right
    · refine ⟨fun b j v h => ?_, fun b n h => ?_⟩
      rotate_right
      · obtain ⟨q1, q2, q3⟩ := hs0.ice.fx b n h
        refine ⟨?_, q2, q3⟩;show (match own0 b with | none => none | some i => if i < N then τ i else some (i - N)) = none;rw [q1]
      obtain ⟨q1, q2, q3, q4, x, q5, q6⟩ := hs0.ice.at_ b j v h;refine ⟨?_, q2, q3, q4, x, q5, VR.clo (β := β0) (β' := ⟨βo, βa, βv, β0.ice, β0.fix⟩) (fun _ _ _ h => h) q3 q6⟩;show (match own0 b with | none => none | some i => if i < N then τ i else some (i - N)) = none;rw [q1]
    rotate_right
    · rintro j ⟨b, hb⟩ hv
      rcases domO hb with ⟨i, g1, g2⟩ | ⟨hn, g2, _⟩
      · rcases hv with ⟨i', g1', g2'⟩ | ⟨hn, _⟩
        · obtain rfl := B.inj _ _ _ g1 g1'
          exact hs0.vir _ ⟨b, g2⟩ g2'
        · exact absurd g1 (hn i)
      · rcases hv with ⟨i', g1', _⟩ | ⟨_, _, g2'⟩
        · exact absurd g1' (hn i')
        · exact hs.vir _ ⟨b, g2⟩ g2'
    · intro j b hb
      rcases domO hb with ⟨i, h1, h2⟩ | ⟨hn, h2, hj⟩
      · obtain ⟨q1, q2, q3⟩ := hs0.obj i b h2
        refine ⟨mine b i j q1 (.inl ⟨b, h2⟩) h1, q2, fun o ho => ?_⟩;have hr := B.obj i j h1;rw [ho] at hr;cases hg : s0'.get i with
        | none => rw [hg] at hr; exact hr.elim
        | some o1 => rw [hg] at hr; exact OSub.obj moves hr (q3 o1 hg)
      · obtain ⟨q1, q2, q3⟩ := hs.obj j b h2
        have hout : ∀ i, i < k → ρ i ≠ j := by
          rcases outside hn with h | ⟨⟨cs, mv, h⟩, _⟩
          · exact h
          · exact (q3 _ h).elim
        obtain ⟨r1, r2⟩ := foreign b j q1 hout;exact ⟨r1, Nat.lt_of_lt_of_le q2 e0.size, fun o ho => by rw [r2]; exact (q3 o (getFar hn hj ho)).mono le⟩
    · intro j hi L hL cs mv ro hc
      rcases domA hL with ⟨i, h1, h2⟩ | ⟨hn, h2, hj⟩
      · have hr := B.obj i j h1
        rw [hc] at hr;cases hg : s0'.get i with
        | none => rw [hg] at hr; exact hr.elim
        | some o1 =>
          rw [hg] at hr;cases hr with
          | @arr cs1 _ _ _ hsub =>
            obtain ⟨q1, q2⟩ := hs0.arr i hi L h2 cs1 mv ro hg;refine ⟨by rw [hsub.length]; exact q1, fun hm => ?_⟩;obtain ⟨r1, r2, r3⟩ := q2 hm;refine ⟨arr_moves moves hsub r1, r2, ?_⟩;cases ro with
            | true =>
              show (match own0 L.block with | none => none | some i => if i < N then τ i else some (i - N)) = none;rw [r3]; rfl
            | false => exact mine _ i j r3 (.inr ⟨hi, L, h2⟩) h1
      · obtain ⟨q1, q2⟩ := hs.arr j hi L h2 cs mv ro (getFar hn hj hc)
        refine ⟨q1, fun hm => ?_⟩;obtain ⟨r1, r2, r3⟩ := q2 hm;cases ro with
        | true =>
          obtain ⟨u1, u2⟩ := nobody _ r2 r3;rw [u2];exact ⟨r1.mono le, Nat.lt_of_lt_of_le r2 e0.size, u1⟩
        | false =>
          have hout : ∀ i, i < k → ρ i ≠ j := by
            rcases outside hn with h | ⟨⟨cs', mv', h⟩, _⟩
            · exact h
            · rw [getFar hn hj hc] at h
              cases h
          obtain ⟨u1, u2⟩ := foreign _ j r3 hout;rw [u2];exact ⟨r1.mono le, Nat.lt_of_lt_of_le r2 e0.size, u1⟩
    · intro j hi hi' L L' h1 h2 h3
      rcases domA h1 with ⟨i, g1, g2⟩ | ⟨hn, g2, _⟩
      · rcases domA h2 with ⟨i', g1', g2'⟩ | ⟨hn, _, _⟩
        · obtain rfl := B.inj _ _ _ g1 g1'
          exact hs0.loc _ _ _ _ _ g2 g2' h3
        · exact absurd g1 (hn i)
      · rcases domA h2 with ⟨i', g1', _⟩ | ⟨_, g2', _⟩
        · exact absurd g1' (hn i')
        · exact hs.loc _ _ _ _ _ g2 g2' h3
    · intro j hi L h1
      rcases domA h1 with ⟨i, g1, g2⟩ | ⟨hn, g2, _⟩
      · exact hs0.blk _ _ _ g2
      · exact Nat.lt_of_lt_of_le (hs.blk _ _ _ g2) e0.size
    · rintro j ⟨b, hb⟩ ⟨hi, L, hL⟩
      rcases domO hb with ⟨i, g1, g2⟩ | ⟨hn, g2, _⟩
      · rcases domA hL with ⟨i', g1', g2'⟩ | ⟨hn, _, _⟩
        · obtain rfl := B.inj _ _ _ g1 g1'
          exact hs0.one _ ⟨b, g2⟩ ⟨hi, L, g2'⟩
        · exact absurd g1 (hn i)
      · rcases domA hL with ⟨i', g1', _⟩ | ⟨_, g2', _⟩
        · exact absurd g1' (hn i')
        · exact hs.one _ ⟨b, g2⟩ ⟨hi, L, g2'⟩
    · intro b j hb
      cases ho : own0 b with
      | none =>
        have : own' b = none := by
          show (match own0 b with | none => none | some i => if i < N then τ i else some (i - N)) = none;rw [ho]
        rw [this] at hb; cases hb
      | some i => exact hs0.small _ _ ho
  · show (match own0 b with | none => none | some i => if i < N then τ i else some (i - N)) = none
    rw [hb]
end
section
variable {P : Program} {G k : Nat} {ρ : Nat → Nat} {s s0 : St}
theorem sc_frame (W : Nat → Nat → Prop) (F : Fit G k ρ s s0) (N : Nat) {f : FuncId} {args args0 : List Value} (hW : ∀ β x, VRs β args x → ∀ j hi, W j hi → ∃ L, β.arr j hi = some L) (ha0 : Subs (fun j _ i => i < k ∧ ρ i = j) args args0) {Q0 Q : Value → St → Prop} (h0 : SC P G f args0 s0 Q0)
  (hout : s.WF → ∀ v0 s0', Q0 v0 s0' → s0'.WF → Grow s0 s0' → s0'.n ≤ N ∧ ∃ τ v s', Q v s' ∧ Sub (Ways k ρ τ W) v0 v ∧ Back k ρ W s s0 s0' τ s' ∧
   ∀ i, i < k → (∀ β x, VRs β args x → β.dom (ρ i)) ∨ (s0'.get i = s0.get i → s'.get (ρ i) = s.get (ρ i))) : SCF P G f args s Q := by
 intro hw β own w args' hs hG hfree ha cs;obtain ⟨v0, s0', β0, own0, w', v', hq, hw0, hg0, e0, hs0, hv0, hc1, hc2⟩ := h0 F.wf (inB k ρ β) (inO k N ρ own) w args' (in_sr F hs) (in_glob F hG) (in_shut F) (ha0.vr in_moves ha) cs;obtain ⟨hN, τ, v, s', hq', hsub, B, hsame⟩ := hout hw v0 s0' hq hw0 hg0;obtain ⟨β', own', e, hs', hm, _⟩ := frame_out F hs (hfree v s' hq') e0 hs0 hN B (hW _ _ ha) fun i hi hd => (hsame i hi).resolve_left fun h => hd (h _ _ ha)
 exact ⟨v, s', β', own', w', v', hq', B.wf, B.grow, e, hs', hsub.vr hm hv0, hc1, hc2⟩
theorem sk_frame (W : Nat → Nat → Prop) (F : Fit G k ρ s s0) (N : Nat) {fid : FuncId} {c : Code} {e e0 : Env} (hW : ∀ β t, ER β e t → ∀ j hi, W j hi → ∃ L, β.arr j hi = some L) (he0 : ESub (fun j _ i => i < k ∧ ρ i = j) e e0) {Q0 Q : Out → Env → St → Prop} (h0 : SK P G fid c e0 s0 Q0)
  (hout : s.WF → ∀ o e0' s0', Q0 o e0' s0' → s0'.WF → Grow s0 s0' → s0'.n ≤ N ∧ ∃ τ e' s', Q o e' s' ∧ ESub (Ways k ρ τ W) e0' e' ∧ Back k ρ W s s0 s0' τ s' ∧
   ∀ i, i < k → (∀ β t, ER β e t → β.dom (ρ i)) ∨ (s0'.get i = s0.get i → s'.get (ρ i) = s.get (ρ i))) : SK P G fid c e s Q := by
 intro hw β own w b t ds n0 hs hG hsh he hok hb hr hm hn k' cs;have hm0 : Marks n0 ds (inO k N ρ own) w := by
  obtain ⟨bs, h1, h2, h3⟩ := hm;exact ⟨bs, h1, h2, fun b hb => ⟨(h3 b hb).1, inO_none (h3 b hb).2.1, (h3 b hb).2.2⟩⟩
 obtain ⟨o, e0', s0', β0, own0, w', t', ds', hq, hw0, hg0, x0, hs0, her0, hm0', hgo⟩ := h0 F.wf (inB k ρ β) (inO k N ρ own) w b t ds n0 (in_sr F hs) (in_glob F hG) (in_shut F) (he0.er in_moves he) hok hb hr hm0 hn k' cs;obtain ⟨hN, τ, e', s', hq', hsub, B, hsame⟩ := hout hw o e0' s0' hq hw0 hg0;obtain ⟨β', own', x, hs', hmv, hnone⟩ := frame_out F hs hsh.free x0 hs0 hN B (hW _ _ he) fun i hi hd => (hsame i hi).resolve_left fun h => hd (h _ _ he)
 refine ⟨o, e', s', β', own', w', t', ds', hq', B.wf, B.grow, x, hs', hsub.er hmv her0, ?_, hgo⟩;obtain ⟨bs, h1, h2, h3⟩ := hm0';exact ⟨bs, h1, h2, fun b hb => ⟨(h3 b hb).1, hnone _ (h3 b hb).2.1, (h3 b hb).2.2⟩⟩
end
end Go.Ai