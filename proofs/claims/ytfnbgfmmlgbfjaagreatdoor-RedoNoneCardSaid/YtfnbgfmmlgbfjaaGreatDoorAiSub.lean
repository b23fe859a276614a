/-
  Other numbers for the same things: what is known of memory may be told again with fewer things and other numbers.
-/
import Derived.Test.YtfnbgfmmlgbfjaaGreatDoorAiSc
namespace Go.Ai

inductive FnS (R : Nat → Option Nat → Nat → Prop) : Fn → Fn → Prop where
  | same (f : Fn) (h : ∀ l, f ≠ .yield l) : FnS R f f
  | yield {l l' : Nat} (h : R l none l') : FnS R (.yield l) (.yield l')

mutual
inductive Sub (R : Nat → Option Nat → Nat → Prop) : Value → Value → Prop where
  | bool (b : Bool) : Sub R (.bool b) (.bool b)
  | int (k : IntKind) (n : Int) : Sub R (.int k n) (.int k n)
  | float (k : FloatKind) (n : Nat) : Sub R (.float k n) (.float k n)
  | complex (k : FloatKind) (a b : Nat) : Sub R (.complex k a b) (.complex k a b)
  | string (s : ByteArray) : Sub R (.string s) (.string s)
  | ptrNil : Sub R (.pointer none) (.pointer none)
  | ptr {i j o : Nat} {sp : Option Nat} (h : R i sp j) : Sub R (.pointer (some ⟨i, o, sp⟩)) (.pointer (some ⟨j, o, sp⟩))
  | sliceNil : Sub R (.slice none 0 0) (.slice none 0 0)
  | slice {i j o n sz : Nat} {sp : Option Nat} (h : R i sp j) : Sub R (.slice (some ⟨i, o, sp⟩) n sz) (.slice (some ⟨j, o, sp⟩) n sz)
  | mapNil : Sub R (.map none) (.map none)
  | map {i j : Nat} (h : R i none j) : Sub R (.map (some i)) (.map (some j))
  | chan (c : Option Nat) : Sub R (.chan c) (.chan c)
  | func {f f' : Fn} {a a' c c' : Array Value} (h : FnS R f f') (ha : Subs R a.toList a'.toList) (hc : Subs R c.toList c'.toList) : Sub R (.func f a c) (.func f' a' c')
  | nilFunc : Sub R .nilFunc .nilFunc
  | iface {t : TypeId} {v v' : Value} (h : Sub R v v') : Sub R (.iface t v) (.iface t v')
  | nilIface : Sub R .nilIface .nilIface
  | agg {a a' : Array Value} (h : Subs R a.toList a'.toList) : Sub R (.agg a) (.agg a')
  | tuple {a a' : Array Value} (h : Subs R a.toList a'.toList) : Sub R (.tuple a) (.tuple a')
  | junk (c : Nat) {v : Value} (h : refy v = true) : Sub R v (.chan (some c))
inductive Subs (R : Nat → Option Nat → Nat → Prop) : List Value → List Value → Prop where
  | nil : Subs R [] []
  | cons {v v' : Value} {l l' : List Value} (h : Sub R v v') (t : Subs R l l') : Subs R (v :: l) (v' :: l')
end

theorem VR.refy {β : Bij} {v v' : Value} (h : VR β v v') (hr : Ai.refy v = true) : Ai.refy v' = true := by
  cases h <;> first
    | rfl
    | assumption
    | (simp [Ai.refy] at hr)

section
variable {β β2 : Bij} {R : Nat → Option Nat → Nat → Prop}

/-- what is found under one number is found under the other -/
def Moves (R : Nat → Option Nat → Nat → Prop) (β β2 : Bij) : Prop := ∀ i sp j, R i sp j → (sp = none → ∀ b, β.obj i = some b → β2.obj j = some b) ∧ ∀ hi, sp = some hi → ∀ L, β.arr i hi = some L → β2.arr j hi = some L

theorem FnS.vr (hR : Moves R β β2) {f f' g : Fn} (h : FnS R f f') (hv : FnR β f g) : FnR β2 f' g := by
  cases h with
  | same _ h =>
    cases hv with
    | same _ h' => exact .same _ h'
    | yield _ => exact absurd rfl (h _)
  | yield h =>
    cases hv with
    | same _ h' => exact absurd rfl (h' _)
    | yield h' => exact .yield ((hR _ _ _ h).1 rfl _ h')

mutual
theorem Sub.vr (hR : Moves R β β2) : ∀ {a b x : Value}, Sub R a b → VR β a x → VR β2 b x
  | _, _, _, .bool _, .bool _ => .bool _
  | _, _, _, .int _ _, .int _ _ => .int _ _
  | _, _, _, .float _ _, .float _ _ => .float _ _
  | _, _, _, .complex _ _ _, .complex _ _ _ => .complex _ _ _
  | _, _, _, .string _, .string _ => .string _
  | _, _, _, .ptrNil, .ptrNil => .ptrNil
  | _, _, _, .ptr h, .ptrObj h' => .ptrObj ((hR _ _ _ h).1 rfl _ h')
  | _, _, _, .ptr h, .ptrArr h' h1 => .ptrArr ((hR _ _ _ h).2 _ rfl _ h') h1
  | _, _, _, .sliceNil, .sliceNil => .sliceNil
  | _, _, _, .slice h, .sliceObj h' hz hc => .sliceObj ((hR _ _ _ h).1 rfl _ h') hz hc
  | _, _, _, .slice h, .sliceArr h' h1 h2 hz hs hc => .sliceArr ((hR _ _ _ h).2 _ rfl _ h') h1 h2 hz hs hc
  | _, _, _, .mapNil, .mapNil => .mapNil
  | _, _, _, .map h, .map h' => .map ((hR _ _ _ h).1 rfl _ h')
  | _, _, _, .chan _, .chanNil => .chanNil
  | _, _, _, .chan _, .junk _ h => .junk _ h
  | _, _, _, .func h ha hc, .func h' ha' hc' => .func (h.vr hR h') (Subs.vr hR ha ha') (Subs.vr hR hc hc')
  | _, _, _, .nilFunc, .nilFunc => .nilFunc
  | _, _, _, .iface h, .iface h' => .iface (Sub.vr hR h h')
  | _, _, _, .nilIface, .nilIface => .nilIface
  | _, _, _, .agg h, .agg h' => .agg (Subs.vr hR h h')
  | _, _, _, .tuple h, .tuple h' => .tuple (Subs.vr hR h h')
  | _, _, _, .junk c h, h' => .junk c (h'.refy h)
theorem Subs.vr (hR : Moves R β β2) : ∀ {a b x : List Value}, Subs R a b → VRs β a x → VRs β2 b x
  | _, _, _, .nil, .nil => .nil
  | _, _, _, .cons h t, .cons h' t' => .cons (Sub.vr hR h h') (Subs.vr hR t t')
end

/-- values without addresses stand for themselves -/
theorem sub_lit {v : Value} (h : litOk v = true) : Sub R v v := by
  unfold litOk at h
  split at h <;> first
    | (constructor; done)
    | exact absurd h Bool.false_ne_true
    | skip
  rename_i cs
  refine .agg ?_
  have : ∀ l : List Value, (l.all fun
    | .bool _ | .int _ _ | .float _ _ | .complex _ _ _ | .string _ | .pointer none | .slice none 0 0 | .map none | .chan none | .nilFunc | .nilIface => true
    | _ => false) = true → Subs R l l := by
    intro l
    induction l with
    | nil => exact fun _ => .nil
    | cons x l ih =>
      intro hl
      rw [List.all_cons, Bool.and_eq_true] at hl
      refine .cons ?_ (ih hl.2)
      have h1 := hl.1
      split at h1 <;> first
        | (constructor; done)
        | cases h1
  exact this _ h
theorem subs_lit : ∀ {l : List Value}, l.all litOk = true → Subs R l l
  | [], _ => .nil
  | x :: l, h => by
    rw [List.all_cons, Bool.and_eq_true] at h
    exact .cons (sub_lit h.1) (subs_lit h.2)

theorem Sub.mono {R' : Nat → Option Nat → Nat → Prop} (hR : ∀ i sp j, R i sp j → R' i sp j) : ∀ {a b : Value}, Sub R a b → Sub R' a b := by
  have fn : ∀ {f f' : Fn}, FnS R f f' → FnS R' f f' := fun h => by
    cases h with
    | same _ h => exact .same _ h
    | yield h => exact .yield (hR _ _ _ h)
  intro a b h
  exact h.rec (motive_1 := fun a b _ => Sub R' a b) (motive_2 := fun a b _ => Subs R' a b)
    .bool .int .float .complex .string .ptrNil (fun h => .ptr (hR _ _ _ h)) .sliceNil (fun h => .slice (hR _ _ _ h)) .mapNil (fun h => .map (hR _ _ _ h)) .chan
    (fun h _ _ ha hc => .func (fn h) ha hc) .nilFunc (fun _ ih => .iface ih) .nilIface (fun _ ih => .agg ih) (fun _ ih => .tuple ih) (fun c _ h => .junk c h) .nil (fun _ _ h t => .cons h t)
theorem Subs.mono {R' : Nat → Option Nat → Nat → Prop} (hR : ∀ i sp j, R i sp j → R' i sp j) : ∀ {a b : List Value}, Subs R a b → Subs R' a b
  | _, _, .nil => .nil
  | _, _, .cons h t => .cons (h.mono hR) (t.mono hR)
theorem Subs.append : ∀ {a b c d : List Value}, Subs R a b → Subs R c d → Subs R (a ++ c) (b ++ d)
  | _, _, _, _, .nil, h => h
  | _, _, _, _, .cons h t, h' => .cons h (t.append h')

/-- the value without what it refers to -/
def erase : Value → Value
  | .pointer _ | .slice _ _ _ | .map _ | .chan _ | .func _ _ _ | .nilFunc | .iface _ _ | .nilIface => .chan (some 0)
  | .bool b => .bool b
  | .int k n => .int k n
  | .float k n => .float k n
  | .complex k a b => .complex k a b
  | .string s => .string s
  | .agg a => .agg (eraseL a.toList).toArray
  | .tuple a => .tuple (eraseL a.toList).toArray
where
  eraseL : List Value → List Value
  | [] => []
  | v :: r => erase v :: eraseL r

mutual
theorem sub_erase : ∀ (v : Value), Sub R v (erase v)
  | .pointer _ => by unfold erase; exact .junk 0 rfl
  | .slice _ _ _ => by unfold erase; exact .junk 0 rfl
  | .map _ => by unfold erase; exact .junk 0 rfl
  | .chan _ => by unfold erase; exact .junk 0 rfl
  | .func _ _ _ => by unfold erase; exact .junk 0 rfl
  | .nilFunc => by unfold erase; exact .junk 0 rfl
  | .iface _ _ => by unfold erase; exact .junk 0 rfl
  | .nilIface => by unfold erase; exact .junk 0 rfl
  | .bool _ => by unfold erase; exact .bool _
  | .int _ _ => by unfold erase; exact .int _ _
  | .float _ _ => by unfold erase; exact .float _ _
  | .complex _ _ _ => by unfold erase; exact .complex _ _ _
  | .string _ => by unfold erase; exact .string _
  | .agg ⟨l⟩ => by unfold erase; exact .agg (subs_erase l)
  | .tuple ⟨l⟩ => by unfold erase; exact .tuple (subs_erase l)
theorem subs_erase : ∀ (l : List Value), Subs R l (erase.eraseL l)
  | [] => by unfold erase.eraseL; exact .nil
  | v :: l => by unfold erase.eraseL; exact .cons (sub_erase v) (subs_erase l)
end

/-! ### frames, things -/
structure ESub (R : Nat → Option Nat → Nat → Prop) (e e2 : Env) : Prop where
  n : e2.n = e.n
  at_ : ∀ j, j < e.n → Sub R (e.get j) (e2.get j)
theorem ESub.er {e e2 : Env} {t : Array Value} (hR : Moves R β β2) (h : ESub R e e2) (he : ER β e t) : ER β2 e2 t :=
  ⟨he.size.trans h.n.symm, fun j hj => (h.at_ j (h.n ▸ hj)).vr hR (he.at_ j (h.n ▸ hj))⟩

inductive EntsS (R : Nat → Option Nat → Nat → Prop) : List MapEntry → List MapEntry → Prop where
  | nil : EntsS R [] []
  | cons {k v v' : Value} {b : Nat} {l l' : List MapEntry} (h : Sub R v v') (t : EntsS R l l') : EntsS R (⟨k, v, b⟩ :: l) (⟨k, v', b⟩ :: l')
theorem EntsS.vr (hR : Moves R β β2) : ∀ {a b x : List MapEntry}, EntsS R a b → EntsR β a x → EntsR β2 b x
  | _, _, _, .nil, .nil => .nil
  | _, _, _, .cons h t, .cons h' t' => .cons ⟨h'.key, h'.plain, h.vr hR h'.val, h'.born⟩ (t.vr hR t')

inductive OSub (R : Nat → Option Nat → Nat → Prop) : AObj → AObj → Prop where
  | cells {cs cs2 : List Value} (h : Subs R cs cs2) : OSub R (.cells cs) (.cells cs2)
  | arr {cs cs2 : List Value} {mv : Nat} {ro : Bool} (h : Subs R cs cs2) : OSub R (.arr cs mv ro) (.arr cs2 mv ro)
  | map {es es2 : List MapEntry} {clock : Nat} (h : EntsS R es es2) : OSub R (.map es clock) (.map es2 clock)
  | iterNil {since stepped : Nat} {seen : List Nat} : OSub R (.iter none since seen stepped) (.iter none since seen stepped)
  | iter {i j since stepped : Nat} {seen : List Nat} (h : R i none j) : OSub R (.iter (some i) since seen stepped) (.iter (some j) since seen stepped)
  | siter {s : ByteArray} {pos : Nat} : OSub R (.siter s pos) (.siter s pos)

theorem Subs.get : ∀ {a b : List Value}, Subs R a b → ∀ {j : Nat} {v : Value}, a[j]? = some v → ∃ v2, b[j]? = some v2 ∧ Sub R v v2
  | _, _, .nil, j, v, h => by simp at h
  | _, _, .cons h t, j, v, hv => by
    cases j with
    | zero => simp at hv; subst hv; exact ⟨_, rfl, h⟩
    | succ j => simp at hv; simpa using t.get hv
theorem Subs.length : ∀ {a b : List Value}, Subs R a b → b.length = a.length
  | _, _, .nil => rfl
  | _, _, .cons _ t => by simp [t.length]

theorem OSub.obj (hR : Moves R β β2) {K : Code → Prop} {o o2 : AObj} {x : Option Obj} (h : OSub R o o2) (ho : ObjR β K o x) : ObjR β2 K o2 x := by
  cases h with
  | cells h => obtain ⟨c, t, h1, h2⟩ := ho; exact ⟨c, t, h1, h.vr hR h2⟩
  | arr h => exact ho.elim
  | map h => obtain ⟨es', h1, h2⟩ := ho; exact ⟨es', h1, h.vr hR h2⟩
  | iterNil => exact ho
  | iter h => obtain ⟨b, h1, h2⟩ := ho; exact ⟨b, (hR _ _ _ h).1 rfl _ h1, h2⟩
  | siter => exact ho
theorem arr_moves (hR : Moves R β β2) {L : ArrLoc} {cs cs2 : List Value} {hi : Nat} {ro : Bool} {x : Option Obj} (h : Subs R cs cs2) (ho : ArrR β L cs hi ro x) : ArrR β2 L cs2 hi ro x := by
  obtain ⟨a, b, c, t, fr, h1, h2, h3, h4⟩ := ho
  refine ⟨a, b, c, t, fr, h1, h2, h3, fun j x y => ?_⟩
  obtain ⟨v, v', p, q, r⟩ := h4 j x y
  obtain ⟨v2, p2, r2⟩ := h.get p
  exact ⟨v2, v', p2, q, r2.vr hR r⟩

def ORel (R : Nat → Option Nat → Nat → Prop) : Option AObj → Option AObj → Prop
  | none, none => True
  | some o, some o2 => OSub R o o2
  | _, _ => False
end
end Go.Ai
