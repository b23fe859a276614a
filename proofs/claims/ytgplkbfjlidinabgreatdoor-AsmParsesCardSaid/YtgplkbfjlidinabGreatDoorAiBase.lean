/- The interpreter: what holds of it. -/
import Derived.Test.YtgplkbfjlidinabGreatDoorAiCore
import Derived.Test.YtgplkbfjlidinabGreatDoorKit
set_option linter.unusedVariables false
set_option linter.unusedSimpArgs false
set_option linter.unnecessarySimpa false
/-
  The interpreter's own plain lemmas: tries, frames, memory.
-/
namespace Go.Ai
namespace T
variable {α : Type}
theorem get_setF (x : α) : ∀ (f : Nat) (t : T α) (k : Nat), k < f → ∀ j, (setF f t k x).get j = if j = k then some x else t.get j := by
  intro f;induction f with
  | zero => intro t k h; omega
  | succ f ih =>
    intro t k hk j;have hl : ∀ j, t.get j = bif Nat.beq j 0 then t.top else bif Nat.beq (j % 2) 1 then t.left.get (j / 2) else t.right.get (j / 2 - 1) := by
      intro j;cases t with
      | e => cases h0 : Nat.beq j 0 <;> cases h1 : Nat.beq (j % 2) 1 <;> simp [get, top, left, right]
      | n l v r => rfl
    unfold setF;by_cases k0 : k = 0
    · subst k0
      simp only [Nat.beq, cond_true];by_cases j0 : j = 0
      · subst j0; rfl
      · rw [hl j]
        have : Nat.beq j 0 = false := by cases h : Nat.beq j 0 with
          | false => rfl
          | true => exact absurd (Nat.eq_of_beq_eq_true h) j0
        simp [get, this, j0]
    · have kb : Nat.beq k 0 = false := by cases h : Nat.beq k 0 with
        | false => rfl
        | true => exact absurd (Nat.eq_of_beq_eq_true h) k0
      rw [kb];simp only [cond_false];by_cases k1 : k % 2 = 1
      · have kb1 : Nat.beq (k % 2) 1 = true := by rw [k1]; rfl
        rw [kb1];simp only [cond_true];rw [hl j];by_cases j0 : j = 0
        · subst j0
          have : (0 : Nat) ≠ k := fun h => k0 h.symm
          simp [get, this, Nat.beq]
        · have jb : Nat.beq j 0 = false := by cases h : Nat.beq j 0 with
            | false => rfl
            | true => exact absurd (Nat.eq_of_beq_eq_true h) j0
          by_cases j1 : j % 2 = 1
          · have jb1 : Nat.beq (j % 2) 1 = true := by rw [j1]; rfl
            simp only [get, jb, jb1, cond_false, cond_true];rw [ih _ _ Z4];by_cases e : j = k
            · subst e; simp
            · rw [if_neg e, if_neg Z4]
          · have jb1 : Nat.beq (j % 2) 1 = false := by cases h : Nat.beq (j % 2) 1 with
              | false => rfl
              | true => exact absurd (Nat.eq_of_beq_eq_true h) j1
            have e : j ≠ k := by intro e; subst e; exact j1 k1
            simp [get, jb, jb1, e]
      · have kb1 : Nat.beq (k % 2) 1 = false := by cases h : Nat.beq (k % 2) 1 with
          | false => rfl
          | true => exact absurd (Nat.eq_of_beq_eq_true h) k1
        rw [kb1];simp only [cond_false];rw [hl j];by_cases j0 : j = 0
        · subst j0
          have : (0 : Nat) ≠ k := fun h => k0 h.symm
          simp [get, this, Nat.beq]
        · have jb : Nat.beq j 0 = false := by cases h : Nat.beq j 0 with
            | false => rfl
            | true => exact absurd (Nat.eq_of_beq_eq_true h) j0
          by_cases j1 : j % 2 = 1
          · have jb1 : Nat.beq (j % 2) 1 = true := by rw [j1]; rfl
            have e : j ≠ k := by intro e; subst e; exact k1 j1
            simp [get, jb, jb1, e]
          · have jb1 : Nat.beq (j % 2) 1 = false := by cases h : Nat.beq (j % 2) 1 with
              | false => rfl
              | true => exact absurd (Nat.eq_of_beq_eq_true h) j1
            simp only [get, jb, jb1, cond_false];rw [ih _ _ Z4];by_cases e : j = k
            · subst e; simp
            · rw [if_neg e, if_neg Z4]
theorem get_set (t : T α) (k : Nat) (x : α) (j : Nat) : (t.set k x).get j = if j = k then some x else t.get j := get_setF x (k + 1) t k Z4 j
theorem get_e (j : Nat) : (T.e : T α).get j = none := rfl
theorem get_ofListFrom (l : List α) : ∀ (k : Nat) (t : T α) (j : Nat), (ofListFrom k l t).get j = if k ≤ j ∧ j < k + l.length then l[j - k]? else t.get j := by
  induction l with
  | nil => intro k t j; rw [if_neg (by simp only [List.length_nil]; omega)]; rfl
  | cons x r ih =>
    intro k t j;simp only [ofListFrom];rw [ih, get_set];by_cases h1 : k + 1 ≤ j ∧ j < k + 1 + r.length
    · rw [if_pos h1, if_pos Z0d]
      obtain ⟨m, rfl⟩ : ∃ m, j = k + 1 + m := ⟨j - (k + 1), Z4⟩;rw [show k + 1 + m - (k + 1) = m from Z4, show k + 1 + m - k = m + 1 from Z4];rfl
    · rw [if_neg h1]
      by_cases e : j = k
      · subst e; rw [if_pos rfl, if_pos Z0u]; simp
      · rw [if_neg e, if_neg Z0d]
theorem get_ofList (l : List α) (j : Nat) : (ofList l).get j = l[j]? := by
 unfold ofList;rw [get_ofListFrom];by_cases h : j < l.length
 ·rw [if_pos Z4]; simp
 ·rw [if_neg Z4, get_e, List.getElem?_eq_none Z4]
end T
theorem Env.get_put (e : Env) (t : Nat) (v : Value) (j : Nat) : (e.put t v).get j = if j = t ∧ t < e.n then v else e.get j := by
 unfold Env.get Env.put;simp only [T.get_set];by_cases h : j < e.n
 ·have hb : Nat.blt j e.n = true := by simp [Nat.blt]; omega
  rw [hb];simp only [cond_true];by_cases ej : j = t
  ·subst ej; simp [h]
  ·simp [ej]
 ·have hb : Nat.blt j e.n = false := by
   cases hh : Nat.blt j e.n with
   | false => rfl
   | true => simp [Nat.blt] at hh; omega
  rw [hb];simp only [cond_false];rw [if_neg Z4]
theorem Env.n_put (e : Env) (t : Nat) (v : Value) : (e.put t v).n = e.n := rfl
theorem Env.get_big (e : Env) (j : Nat) (h : e.n ≤ j) : e.get j = undef := by
 have hb : Nat.blt j e.n = false := by
  cases hh : Nat.blt j e.n with
  | false => rfl
  | true => simp [Nat.blt] at hh; omega
 unfold Env.get;rw [hb]; rfl
theorem St.get_set (s : St) (i : Nat) (o : AObj) (j : Nat) : (s.set i o).get j = if j = i then some o else s.get j := T.get_set _ _ _ _
theorem St.get_new (s : St) (o : AObj) (j : Nat) : (s.new o).get j = if j = s.n then some o else s.get j := T.get_set _ _ _ _
theorem St.n_set (s : St) (i : Nat) (o : AObj) : (s.set i o).n = s.n := rfl
theorem St.n_new (s : St) (o : AObj) : (s.new o).n = s.n + 1 := rfl
theorem length_splice (cs : List Value) (off : Nat) (vs : List Value) (h : off + vs.length ≤ cs.length) : (splice cs off vs).length = cs.length := by
 simp [splice]; omega
theorem splice_get (cs : List Value) (off : Nat) (vs : List Value) (h : off + vs.length ≤ cs.length) (j : Nat) :
  (splice cs off vs)[j]? = if off ≤ j ∧ j < off + vs.length then vs[j - off]? else cs[j]? := by
 unfold splice;by_cases h1 : j < off
 ·rw [if_neg Z4, List.append_assoc, List.getElem?_append_left Z0d, List.getElem?_take_of_lt h1]
 ·by_cases h2 : j < off + vs.length
  ·rw [if_pos Z4, List.getElem?_append_left Z0d, List.getElem?_append_right Z0d];congr 1; simp; omega
  ·rw [if_neg Z4, List.getElem?_append_right Z0d, List.getElem?_drop];congr 1; simp; omega
inductive M.Has {α : Type} : M α → α → Prop where
 | ret (a : α) : M.Has (.ret a) a
 | ask {n i : Nat} {k : Nat → M α} {a : α} (hi : i < n) (h : M.Has (k i) a) : M.Has (.ask n k) a
theorem M.All.has {α : Type} {Q : α → Prop} {m : M α} {a : α} (h : m.All Q) (ha : m.Has a) : Q a := by
 induction ha with
 | ret a => exact h
 | ask hi _ ih => exact ih (h.2 _ hi)
theorem M.All.some {α : Type} {Q : α → Prop} : ∀ {m : M α}, m.All Q → ∃ a, m.Has a
 | .ret a, _ => ⟨a, .ret a⟩
 | .fail, h => h.elim
 | .ask _ _, h => let ⟨a, ha⟩ := M.All.some (h.2 0 h.1); ⟨a, .ask h.1 ha⟩
theorem M.All.mono {α : Type} {Q Q' : α → Prop} (hq : ∀ a, Q a → Q' a) : ∀ {m : M α}, m.All Q → m.All Q'
 | .ret a, h => hq a h
 | .fail, h => h
 | .ask _ _, h => ⟨h.1, fun i hi => M.All.mono hq (h.2 i hi)⟩
theorem M.all_bind {α β : Type} {Q : β → Prop} {f : α → M β} : ∀ {m : M α}, (m.bind f).All Q ↔ m.All fun a => (f a).All Q
  | .ret a => Iff.rfl
  | .fail => Iff.rfl
  | .ask _ k => by
    simp only [M.bind, M.All];exact and_congr Iff.rfl (forall_congr' fun i => imp_congr Iff.rfl M.all_bind)
theorem M.Has.bind {α β : Type} {f : α → M β} {a : α} {b : β} {m : M α} (h : m.Has a) (hb : (f a).Has b) : (m.bind f).Has b := by
 induction h with
 | ret a => exact hb
 | ask hi _ ih => exact .ask hi (ih hb)
end Go.Ai
/-
  How the interpreter's values and memory stand for the model's.
-/
namespace Go.Ai
structure ArrLoc where
 block : Nat
 lo : Nat
 base : Nat
 size : Nat
structure Bij where
 obj : Nat → Option Nat
 arr : Nat → Nat → Option ArrLoc
 vir : Nat → Prop
 ice : Nat → Nat → Value → Prop
 fix : Nat → Nat → Prop
structure Bij.le (β β' : Bij) : Prop where
 intro ::
 left : ∀ i b, β.obj i = some b → β'.obj i = some b
 right : ∀ i h L, β.arr i h = some L → β'.arr i h = some L
 vir : ∀ i, β.vir i → β'.vir i
 ice : ∀ b j v, β.ice b j v → β'.ice b j v
 fix : ∀ b n, β.fix b n → β'.fix b n
theorem Bij.le_refl (β : Bij) : β.le β := ⟨fun _ _ h => h, fun _ _ _ h => h, fun _ h => h, fun _ _ _ h => h, fun _ _ h => h⟩
theorem Bij.le_trans {β β' β'' : Bij} (h : β.le β') (h' : β'.le β'') : β.le β'' := ⟨fun i b x => h'.left i b (h.left i b x), fun i k L x => h'.right i k L (h.right i k L x), fun i x => h'.vir i (h.vir i x), fun b j v x => h'.ice b j v (h.ice b j v x), fun b n x => h'.fix b n (h.fix b n x)⟩
inductive Bij.dom (β : Bij) (i : Nat) : Prop where
 | inl (h : ∃ b, β.obj i = some b)
 | inr (h : ∃ hi L, β.arr i hi = some L)
 | vir (h : β.vir i)
theorem Bij.dom_le {β β' : Bij} (h : β.le β') {i : Nat} (hd : β.dom i) : β'.dom i := by
 rcases hd with ⟨b, hb⟩ | ⟨hi, L, hL⟩ | hv
 ·exact .inl ⟨b, h.left _ _ hb⟩
 ·exact .inr ⟨hi, L, h.right _ _ _ hL⟩
 ·exact .vir (h.vir _ hv)
inductive InlR (I : Nat → Nat → Value → Prop) : Inl → Value → Prop where
 | none {sz : Nat} (hz : 0 < sz) : InlR I (.slice 0 sz [] []) (.slice none 0 0)
 | empty {sz cap : Nat} {a : Addr} (hz : 0 < sz) : InlR I (.slice 0 sz [] []) (.slice (some a) 0 cap)
 | slice {n sz cap b o : Nat} {cs sp : List Value} (hz : 0 < sz) (hl : cs.length = n * sz) (hn : n ≤ cap) (hc : cs.length + sp.length ≤ cap * sz) (h : ∀ j v, (cs ++ sp)[j]? = some v → I b (o + j) v) : InlR I (.slice n sz cs sp) (.slice (some ⟨b, o, none⟩) n cap)
 | bareNil : InlR I .bare (.slice none 0 0)
 | bare {a : Addr} : InlR I .bare (.slice (some a) 0 0)
 | ptr {b o : Nat} {cs : List Value} (h : ∀ j v, cs[j]? = some v → I b (o + j) v) : InlR I (.ptr cs) (.pointer (some ⟨b, o, none⟩))
theorem InlR.mono {I I' : Nat → Nat → Value → Prop} (hI : ∀ b j v, I b j v → I' b j v) {i : Inl} {v : Value} (h : InlR I i v) : InlR I' i v := by
 cases h with
 | none hz => exact .none hz
 | empty hz => exact .empty hz
 | slice hz hl hn hc h => exact .slice hz hl hn hc fun j v x => hI _ _ _ (h j v x)
 | bareNil => exact .bareNil
 | bare => exact .bare
 | ptr h => exact .ptr fun j v x => hI _ _ _ (h j v x)
inductive FnR (β : Bij) : Fn → Fn → Prop where
 | same (f : Fn) (h : ∀ l, f ≠ .yield l) : FnR β f f
 | yield {l l' : Nat} (h : β.obj l = some l') : FnR β (.yield l) (.yield l')
def refy : Value → Bool
 | .pointer _ | .slice _ _ _ | .map _ | .chan _ | .func _ _ _ | .nilFunc | .iface _ _ | .nilIface => true
 | _ => false
def SliceC (c a : Addr) (n cap sz m : Nat) : Prop := (c = a ∧ n ≤ cap ∧ cap * sz ≤ m) ∨ (n = 0 ∧ cap = 0)
mutual
inductive VR (β : Bij) : Value → Value → Prop where
 | bool (b : Bool) : VR β (.bool b) (.bool b)
 | int (k : IntKind) (n : Int) : VR β (.int k n) (.int k n)
 | float (k : FloatKind) (n : Nat) : VR β (.float k n) (.float k n)
 | complex (k : FloatKind) (a b : Nat) {m : Int} (h : (a : Int) ≤ m) : VR β (.complex k a b) (.int .i64 m)
 | string (s : ByteArray) : VR β (.string s) (.string s)
 | ptrNil : VR β (.pointer none) (.pointer none)
 | ptrObj {i o b : Nat} (h : β.obj i = some b) : VR β (.pointer (some ⟨i, o, none⟩)) (.pointer (some ⟨b, o, none⟩))
 | ptrArr {i o hi : Nat} {L : ArrLoc} (h : β.arr i hi = some L) (h1 : L.lo ≤ o) : VR β (.pointer (some ⟨i, o, some hi⟩)) (.pointer (some ⟨L.block, L.base + (o - L.lo), none⟩))
 | sliceNil : VR β (.slice none 0 0) (.slice none 0 0)
 | sliceObj {i o b n sz cap m : Nat} {c : Addr} (h : β.obj i = some b) (hz : 0 < sz) (hc : SliceC c ⟨b, o, none⟩ n cap sz m) : VR β (.slice (some ⟨i, o, none⟩) n sz) (.slice (some c) n cap)
 | sliceArr {i o hi n sz cap : Nat} {L : ArrLoc} {c : Addr} (h : β.arr i hi = some L) (h1 : L.lo ≤ o) (h2 : o + n * sz ≤ hi) (hz : 0 < sz)
  (hs : L.base + (o - L.lo) ≤ L.size) (hc : SliceC c ⟨L.block, L.base + (o - L.lo), none⟩ n cap sz (L.size - (L.base + (o - L.lo)))) (hl : capd = true → hi ≤ o + cap * sz) : VR β (.slice (some ⟨i, o, some hi⟩) n sz) (.slice (some c) n cap)
 | sliceVir {i o hi sz : Nat} (h : β.vir i) (hz : 0 < sz) (h0 : hi ≤ o) : VR β (.slice (some ⟨i, o, some hi⟩) 0 sz) (.slice none 0 0)
 | mapNil : VR β (.map none) (.map none)
 | map {i b : Nat} (h : β.obj i = some b) : VR β (.map (some i)) (.map (some b))
 | chanNil : VR β (.chan none) (.chan none)
 | junk (c : Nat) {v' : Value} (h : refy v' = true) (hf : ∀ i, dec c = some i → InlR β.ice i v') : VR β (.chan (some c)) v'
 | func {f f' : Fn} {a a' c c' : Array Value} (h : FnR β f f') (ha : VRs β a.toList a'.toList) (hc : VRs β c.toList c'.toList) : VR β (.func f a c) (.func f' a' c')
 | nilFunc : VR β .nilFunc .nilFunc
 | iface {t : TypeId} {v v' : Value} (h : VR β v v') : VR β (.iface t v) (.iface t v')
 | nilIface : VR β .nilIface .nilIface
 | agg {a a' : Array Value} (h : VRs β a.toList a'.toList) : VR β (.agg a) (.agg a')
 | tuple {a a' : Array Value} (h : VRs β a.toList a'.toList) : VR β (.tuple a) (.tuple a')
inductive VRs (β : Bij) : List Value → List Value → Prop where
 | nil : VRs β [] []
 | cons {v v' : Value} {l l' : List Value} (h : VR β v v') (t : VRs β l l') : VRs β (v :: l) (v' :: l')
end
theorem FnR.mono {β β' : Bij} (hl : β.le β') {f f' : Fn} (h : FnR β f f') : FnR β' f f' := by
 cases h with
 | same _ h => exact .same _ h
 | yield h => exact .yield (hl.left _ _ h)
mutual
theorem VR.mono {β β' : Bij} (hl : β.le β') : ∀ {v v' : Value}, VR β v v' → VR β' v v'
 | _, _, .bool b => .bool b
 | _, _, .int k n => .int k n
 | _, _, .float k n => .float k n
 | _, _, .complex k a b h => .complex k a b h
 | _, _, .string s => .string s
 | _, _, .ptrNil => .ptrNil
 | _, _, .ptrObj h => .ptrObj (hl.left _ _ h)
 | _, _, .ptrArr h h1 => .ptrArr (hl.right _ _ _ h) h1
 | _, _, .sliceNil => .sliceNil
 | _, _, .sliceObj h hz hc => .sliceObj (hl.left _ _ h) hz hc
 | _, _, .sliceArr h h1 h2 hz hs hc hb => .sliceArr (hl.right _ _ _ h) h1 h2 hz hs hc hb
 | _, _, .mapNil => .mapNil
 | _, _, .map h => .map (hl.left _ _ h)
 | _, _, .chanNil => .chanNil
 | _, _, .sliceVir h hz h0 => .sliceVir (hl.vir _ h) hz h0
 | _, _, .junk c h hf => .junk c h fun i hi => (hf i hi).mono hl.ice
 | _, _, .func h ha hc => .func (h.mono hl) (VRs.mono hl ha) (VRs.mono hl hc)
 | _, _, .nilFunc => .nilFunc
 | _, _, .iface h => .iface (VR.mono hl h)
 | _, _, .nilIface => .nilIface
 | _, _, .agg h => .agg (VRs.mono hl h)
 | _, _, .tuple h => .tuple (VRs.mono hl h)
theorem VRs.mono {β β' : Bij} (hl : β.le β') : ∀ {l l' : List Value}, VRs β l l' → VRs β' l l'
 | _, _, .nil => .nil
 | _, _, .cons h t => .cons (VR.mono hl h) (VRs.mono hl t)
end
theorem VRs.length {β : Bij} : ∀ {l l' : List Value}, VRs β l l' → l'.length = l.length
 | _, _, .nil => rfl
 | _, _, .cons _ t => by simp [t.length]
theorem VRs.get {β : Bij} : ∀ {l l' : List Value}, VRs β l l' → ∀ {j : Nat} {v : Value}, l[j]? = some v → ∃ v', l'[j]? = some v' ∧ VR β v v'
  | _, _, .nil, j, v, h => Z21
  | _, _, .cons h t, j, v, hv => by
    cases j with
    | zero => simp at hv; subst hv; exact ⟨_, rfl, h⟩
    | succ j => simp at hv; simpa using t.get hv
theorem VRs.get' {β : Bij} : ∀ {l l' : List Value}, VRs β l l' → ∀ {j : Nat} {v' : Value}, l'[j]? = some v' → ∃ v, l[j]? = some v ∧ VR β v v'
  | _, _, .nil, j, v, h => Z21
  | _, _, .cons h t, j, v, hv => by
    cases j with
    | zero => simp at hv; subst hv; exact ⟨_, rfl, h⟩
    | succ j => simp at hv; simpa using t.get' hv
theorem VRs.of {β : Bij} : ∀ {l l' : List Value}, l.length = l'.length → (∀ (j : Nat) (v v' : Value), l[j]? = some v → l'[j]? = some v' → VR β v v') → VRs β l l'
 | [], [], _, _ => .nil
 | [], _ :: _, h, _ => Z21
 | _ :: _, [], h, _ => Z21
 | x :: xs, y :: ys, h, hf => .cons (hf 0 _ _ rfl rfl) (VRs.of Z15 fun j v v' hv hv' => hf (j + 1) v v' (by simpa using hv) (by simpa using hv'))
theorem VRs.append {β : Bij} : ∀ {l l' m m' : List Value}, VRs β l l' → VRs β m m' → VRs β (l ++ m) (l' ++ m')
 | _, _, _, _, .nil, h => h
 | _, _, _, _, .cons h t, h' => .cons h (t.append h')
theorem VRs.take {β : Bij} : ∀ (n : Nat) {l l' : List Value}, VRs β l l' → VRs β (l.take n) (l'.take n)
 | 0, _, _, _ => by simp; exact .nil
 | _ + 1, _, _, .nil => by simp; exact .nil
 | n + 1, _, _, .cons h t => by simp; exact .cons h (t.take n)
theorem VRs.drop {β : Bij} : ∀ (n : Nat) {l l' : List Value}, VRs β l l' → VRs β (l.drop n) (l'.drop n)
 | 0, _, _, h => Z15
 | _ + 1, _, _, .nil => by simp; exact .nil
 | n + 1, _, _, .cons h t => by simp; exact t.drop n
theorem VRs.splice {β : Bij} {cs cs' vs vs' : List Value} (h : VRs β cs cs') (off : Nat) (hv : VRs β vs vs') : VRs β (splice cs off vs) (splice cs' off vs') := by
 unfold Ai.splice;rw [hv.length];exact ((h.take off).append hv).append (h.drop _)
theorem VRs.rest {β : Bij} {v v' : Value} {l l' : List Value} (h : VRs β (v :: l) (v' :: l')) : VR β v v' ∧ VRs β l l' := by
 cases h with
 | cons h t => exact ⟨h, t⟩
theorem VRs.one {β : Bij} {v v' : Value} (h : VR β v v') : VRs β [v] [v'] := .cons h .nil
theorem VRs.nil_inv {β : Bij} {l : List Value} (h : VRs β [] l) : l = [] := Z1l
theorem VRs.cons_inv {β : Bij} {v : Value} {l m : List Value} (h : VRs β (v :: l) m) : ∃ v' l', m = v' :: l' ∧ VR β v v' ∧ VRs β l l' := by
 cases h with
 | cons h t => exact ⟨_, _, rfl, h, t⟩
theorem VR.cells {β : Bij} {v v' : Value} (h : VR β v v') : VRs β v.cells.toList v'.cells.toList := by
  cases h <;> first
    | (simp only [Value.cells]; assumption)
    | exact .one (by constructor <;> assumption)
    | (rename_i h hf; have hc : v'.cells.toList = [v'] := by cases v' <;> first | rfl | cases h
       rw [hc]; exact .one (.junk _ h hf))
theorem VR.cells_size {β : Bij} {v v' : Value} (h : VR β v v') : v'.cells.size = v.cells.size := by
 have := h.cells.length;simpa using this
theorem VR.undef (β : Bij) : VR β Go.undef Go.undef := .tuple .nil
structure ER (β : Bij) (e : Env) (t : Array Value) : Prop where
 size : t.size = e.n
 at_ : ∀ j, j < e.n → VR β (e.get j) (t.getD j Go.undef)
theorem ER.mono {β β' : Bij} (hl : β.le β') {e : Env} {t : Array Value} (h : ER β e t) : ER β' e t := ⟨h.size, fun j hj => (h.at_ j hj).mono hl⟩
theorem ER.get {β : Bij} {e : Env} {t : Array Value} (h : ER β e t) (j : Nat) : VR β (e.get j) (t.getD j Go.undef) := by
 by_cases hj : j < e.n
 ·exact h.at_ j hj
 ·rw [e.get_big j Z4];have : t.getD j Go.undef = Go.undef := by simp [Array.getD, h.size, hj]
  rw [this]; exact .undef β
theorem ER.put {β : Bij} {e : Env} {t : Array Value} (h : ER β e t) (j : Nat) {v v' : Value} (hv : VR β v v') : ER β (e.put j v) (t.setIfInBounds j v') := by
 refine ⟨by simpa [Env.n_put] using h.size, fun i hi => ?_⟩;rw [Env.n_put] at hi;rw [Env.get_put];have ht : i < t.size := by rw [h.size]; exact hi
 by_cases e1 : i = j
 ·subst e1;rw [if_pos ⟨rfl, hi⟩];have : (t.setIfInBounds i v').getD i Go.undef = v' := by simp [Array.getD, ht]
  rw [this]; exact hv
 ·rw [if_neg (fun x => e1 x.1)];have : (t.setIfInBounds j v').getD i Go.undef = t.getD i Go.undef := by
   simp [Array.getD, ht, Ne.symm e1]
  rw [this]; exact h.at_ i hi
def Loose (fr : Nat × Nat) (n : Nat) : Prop := fr.1 = fr.2 ∨ n ≤ fr.1
structure EntR (β : Bij) (e e' : MapEntry) : Prop where
 key : e'.key = e.key
 plain : keyPlain e.key = true
 val : VR β e.val e'.val
 born : e'.born = e.born
inductive EntsR (β : Bij) : List MapEntry → List MapEntry → Prop where
 | nil : EntsR β [] []
 | cons {e e' : MapEntry} {l l' : List MapEntry} (h : EntR β e e') (t : EntsR β l l') : EntsR β (e :: l) (e' :: l')
theorem EntsR.mono {β β' : Bij} (hl : β.le β') {l l' : List MapEntry} (h : EntsR β l l') : EntsR β' l l' := by
 induction h with
 | nil => exact .nil
 | cons h _ ih => exact .cons ⟨h.key, h.plain, h.val.mono hl, h.born⟩ ih
def litOk : Value → Bool
  | .bool _ | .int _ _ | .float _ _ | .string _ | .pointer none | .slice none 0 0 | .map none | .chan none | .nilFunc | .nilIface => true
  | .agg cs => cs.toList.all fun
    | .bool _ | .int _ _ | .float _ _ | .string _ | .pointer none | .slice none 0 0 | .map none | .chan none | .nilFunc | .nilIface => true
    | _ => false
  | _ => false
structure LoopR (β : Bij) (codeOk : Code → Prop) (l : ALoop) (l' : Loop) : Prop where
 state : l'.state = l.state
 pending : l'.pending = l.pending
 fn : l'.fn = l.fn
 tmps : ER β l.tmps l'.tmps
 params : l'.params = l.params
 assign : l'.assign = l.assign
 body : l'.body = l.body
 ok1 : codeOk l.assign
 ok2 : codeOk l.body
def TyAt (ty : Option TypeId) (t : TypeId) : Prop := ∀ u, ty = some u → t = u
theorem tyAt_none {t : TypeId} : TyAt none t := fun _ h => Z02
def ObjR (β : Bij) (K : Code → Prop) (o : AObj) (o' : Option Obj) : Prop :=
 match o with
 | .cells cs ty => ∃ c t, o' = some (.cells c t (0, 0)) ∧ VRs β cs c.toList ∧ TyAt ty t
 | .map es clock => ∃ es', o' = some (.map es' clock) ∧ EntsR β es es'.toList
 | .iter none since seen stepped => o' = some (.mapIter none since seen.toArray stepped)
 | .iter (some i) since seen stepped => ∃ b, β.obj i = some b ∧ o' = some (.mapIter (some b) since seen.toArray stepped)
 | .siter s pos => o' = some (.stringIter s pos)
 | .loop l => ∃ l', o' = some (.loop l') ∧ LoopR β K l l'
 | .arr .. | .dead => False
theorem ObjR.mono {β β' : Bij} {K : Code → Prop} (hl : β.le β') {o : AObj} {o' : Option Obj} (h : ObjR β K o o') : ObjR β' K o o' := by
  cases o with
  | cells cs ty => obtain ⟨c, t, h1, h2, h3⟩ := h; exact ⟨c, t, h1, h2.mono hl, h3⟩
  | map es clock => obtain ⟨es', h1, h2⟩ := h; exact ⟨es', h1, h2.mono hl⟩
  | iter m since seen stepped =>
    cases m with
    | none => exact h
    | some i => obtain ⟨b, h1, h2⟩ := h; exact ⟨b, hl.left _ _ h1, h2⟩
  | siter s pos => exact h
  | loop l => obtain ⟨l', h1, h2⟩ := h; exact ⟨l', h1, ⟨h2.state, h2.pending, h2.fn, h2.tmps.mono hl, h2.params, h2.assign, h2.body, h2.ok1, h2.ok2⟩⟩
  | arr => exact h.elim
  | dead => exact h.elim
structure ArrR (β : Bij) (L : ArrLoc) (cs : List Value) (hi : Nat) (ro : Bool) (o' : Option Obj) : Prop where
 lo : L.lo ≤ hi
 fits : L.base + (hi - L.lo) ≤ L.size
 row : ∃ c t fr, o' = some (.cells c t fr) ∧ (ro = false → Loose fr c.size) ∧ c.size = L.size ∧
  ∀ j, L.lo ≤ j → j < hi → ∃ v v', cs[j]? = some v ∧ c[L.base + (j - L.lo)]? = some v' ∧ VR β v v'
theorem ArrR.mono {β β' : Bij} (hl : β.le β') {L : ArrLoc} {cs : List Value} {hi : Nat} {ro : Bool} {o' : Option Obj} (h : ArrR β L cs hi ro o') : ArrR β' L cs hi ro o' := by
 obtain ⟨a, b, c, t, fr, h1, h2, h3, h4⟩ := h;exact ⟨a, b, c, t, fr, h1, h2, h3, fun j x y => let ⟨v, v', p, q, r⟩ := h4 j x y; ⟨v, v', p, q, r.mono hl⟩⟩
def clo : Value → Bool
 | .pointer (some _) | .slice (some _) _ _ | .slice none (_ + 1) _ | .slice none _ (_ + 1) | .map (some _) | .func _ _ _ => false
 | .iface _ v => clo v
 | .agg a => cloA a
 | .tuple a => cloA a
 | _ => true
where
 cloA : Array Value → Bool
 | ⟨l⟩ => cloL l
 cloL : List Value → Bool
 | [] => true
 | v :: r => clo v && cloL r
mutual
theorem VR.clo {β β' : Bij} (hf : ∀ b j v, β.ice b j v → β'.ice b j v) : ∀ {v x : Value}, Ai.clo v = true → VR β v x → VR β' v x
  | _, _, _, .bool b => .bool b
  | _, _, _, .int k n => .int k n
  | _, _, _, .float k n => .float k n
  | _, _, _, .complex k a b h => .complex k a b h
  | _, _, _, .string s => .string s
  | _, _, _, .ptrNil => .ptrNil
  | _, _, h, .ptrObj _ => by simp [Ai.clo] at h
  | _, _, h, .ptrArr _ _ => by simp [Ai.clo] at h
  | _, _, _, .sliceNil => .sliceNil
  | _, _, h, .sliceObj _ _ _ => by simp [Ai.clo] at h
  | _, _, h, .sliceArr _ _ _ _ _ _ _ => by simp [Ai.clo] at h
  | _, _, h, .sliceVir _ _ _ => by simp [Ai.clo] at h
  | _, _, _, .mapNil => .mapNil
  | _, _, h, .map _ => by simp [Ai.clo] at h
  | _, _, _, .chanNil => .chanNil
  | _, _, _, .junk c h g => .junk c h fun i hi => (g i hi).mono hf
  | _, _, h, .func _ _ _ => by simp [Ai.clo] at h
  | _, _, _, .nilFunc => .nilFunc
  | _, _, h, .iface g => .iface (VR.clo hf (by simpa [Ai.clo] using h) g)
  | _, _, _, .nilIface => .nilIface
  | .agg ⟨l⟩, _, h, .agg g => .agg (VRs.clo hf (by simpa [Ai.clo, Ai.clo.cloA] using h) g)
  | .tuple ⟨l⟩, _, h, .tuple g => .tuple (VRs.clo hf (by simpa [Ai.clo, Ai.clo.cloA] using h) g)
theorem VRs.clo {β β' : Bij} (hf : ∀ b j v, β.ice b j v → β'.ice b j v) : ∀ {l x : List Value}, Ai.clo.cloL l = true → VRs β l x → VRs β' l x
  | _, _, _, .nil => .nil
  | _, _, h, .cons g t => by
    simp only [Ai.clo.cloL, Bool.and_eq_true] at h
    exact .cons (VR.clo hf h.1 g) (VRs.clo hf h.2 t)
end
theorem clo_all : ∀ {l : List Value}, clo.cloL l = true ↔ ∀ v ∈ l, clo v = true
 | [] => by simp [clo.cloL]
 | v :: l => by simp [clo.cloL, clo_all (l := l)]
structure IceAt (β : Bij) (own : Nat → Option Nat) (w : World) (b j : Nat) (v : Value) : Prop where
 own : own b = none
 lt : b < w.heap.size
 clo : clo v = true
 one : one v = true
 cell : ∃ x, w.cell? ⟨b, j, none⟩ = some x ∧ VR β v x
theorem IceAt.mono {β β' : Bij} {own own' : Nat → Option Nat} {w w' : World} {b j : Nat} {v : Value} (h : IceAt β own w b j v) (hf : ∀ b j v, β.ice b j v → β'.ice b j v) (hsz : w.heap.size ≤ w'.heap.size)
  (hb : ∀ b, b < w.heap.size → own b = none → own' b = none ∧ w'.heap[b]? = w.heap[b]?) : IceAt β' own' w' b j v := by
 obtain ⟨h2, h3, h4, h1, x, h5, h6⟩ := h;obtain ⟨g1, g2⟩ := hb _ h3 h2;refine ⟨g1, Nat.lt_of_lt_of_le h3 hsz, h4, h1, x, ?_, h6.clo hf h4⟩;rw [← h5];unfold World.cell?;rw [g2]
structure FixAt (own : Nat → Option Nat) (w : World) (b n : Nat) : Prop where
 own : own b = none
 lt : b < w.heap.size
 obj : ∃ c ty fr, w.heap[b]? = some (.cells c ty fr) ∧ c.size = n
theorem FixAt.mono {own own' : Nat → Option Nat} {w w' : World} {b n : Nat} (h : FixAt own w b n) (hsz : w.heap.size ≤ w'.heap.size)
  (hb : ∀ b, b < w.heap.size → own b = none → own' b = none ∧ w'.heap[b]? = w.heap[b]?) : FixAt own' w' b n := by
 obtain ⟨h1, h2, h3⟩ := h;obtain ⟨g1, g2⟩ := hb _ h2 h1;exact ⟨g1, Nat.lt_of_lt_of_le h2 hsz, by rw [g2]; exact h3⟩
structure IceOk (β : Bij) (own : Nat → Option Nat) (w : World) : Prop where
 at_ : ∀ b j v, β.ice b j v → IceAt β own w b j v
 fx : ∀ b n, β.fix b n → FixAt own w b n
theorem IceOk.mono {β β' : Bij} {own own' : Nat → Option Nat} {w w' : World} (h : IceOk β own w) (he : β'.ice = β.ice) (hsz : w.heap.size ≤ w'.heap.size)
  (hb : ∀ b, b < w.heap.size → own b = none → own' b = none ∧ w'.heap[b]? = w.heap[b]?) (hf : β'.fix = β.fix := by rfl) : IceOk β' own' w' where
 at_ b j v hv := by
  rw [he] at hv;exact (h.at_ b j v hv).mono (fun _ _ _ x => by rw [he]; exact x) hsz hb
 fx b n hv := by
  rw [hf] at hv;exact (h.fx b n hv).mono hsz hb
structure SR (K : Code → Prop) (β : Bij) (own : Nat → Option Nat) (g : Nat → Option AObj) (w : World) : Prop where
 obj : ∀ i b, β.obj i = some b → own b = some i ∧ b < w.heap.size ∧ ∀ o, g i = some o → ObjR β K o w.heap[b]?
 arr : ∀ i hi L, β.arr i hi = some L → ∀ cs mv ro, g i = some (.arr cs mv ro) → hi ≤ cs.length ∧ (mv ≤ hi →
  ArrR β L cs hi ro w.heap[L.block]? ∧ L.block < w.heap.size ∧ own L.block = (if ro then none else some i))
 loc : ∀ i hi hi' L L', β.arr i hi = some L → β.arr i hi' = some L' → L.block = L'.block → L = L'
 blk : ∀ i hi L, β.arr i hi = some L → L.block < w.heap.size
 one : ∀ i, (∃ b, β.obj i = some b) → ¬ ∃ hi L, β.arr i hi = some L
 small : ∀ b i, own b = some i → b < w.heap.size
 vir : ∀ i, (∃ b, β.obj i = some b) → ¬ β.vir i
 ice : IceOk β own w
def DrLe (a b : Nat) : Prop := drl = true → a ≤ b
theorem DrLe.refl (a : Nat) : DrLe a a := fun _ => Nat.le_refl _
theorem DrLe.of {a b : Nat} (h : a ≤ b) : DrLe a b := fun _ => h
theorem DrLe.trans {a b c : Nat} (h : DrLe a b) (h' : DrLe b c) : DrLe a c := fun q => Nat.le_trans (h q) (h' q)
structure Ext (β : Bij) (own : Nat → Option Nat) (s : St) (w : World) (β' : Bij) (own' : Nat → Option Nat) (s' : St) (w' : World) : Prop where
 le : β.le β'
 new : ∀ i, β'.dom i → β.dom i ∨ (s.n ≤ i ∧ i < s'.n)
 nle : s.n ≤ s'.n
 aframe : ∀ i, i < s.n → ¬ β.dom i → s'.get i = s.get i
 size : w.heap.size ≤ w'.heap.size
 cframe : ∀ b, b < w.heap.size → (∀ i, own b = some i → s'.n ≤ i) → own' b = own b ∧ w'.heap[b]? = w.heap[b]?
 os : w'.os = w.os
 tape : w'.tape = w.tape
 output : w'.output = w.output
 keep : ∀ i, s'.n ≤ i → β'.obj i = β.obj i ∧ β'.arr i = β.arr i ∧ β'.vir i = β.vir i
 virn : ∀ i, β'.vir i → β.vir i ∨ s.n ≤ i
 drawn : DrLe w.drawn w'.drawn
def Free (β : Bij) (s s' : St) : Prop := ∀ i, β.dom i → i < s.n ∨ s'.n ≤ i
theorem Ext.refl (β : Bij) (own : Nat → Option Nat) (s : St) (w : World) : Ext β own s w β own s w :=
 ⟨Bij.le_refl β, fun _ h => .inl h, Nat.le_refl _, fun _ _ _ => rfl, Nat.le_refl _, fun _ _ _ => ⟨rfl, rfl⟩, rfl, rfl, rfl, fun _ _ => ⟨rfl, rfl, rfl⟩, fun _ h => .inl h, DrLe.refl _⟩
theorem Ext.trans {β β' β'' : Bij} {own own' own'' : Nat → Option Nat} {s s' s'' : St} {w w' w'' : World} (h : Ext β own s w β' own' s' w') (h' : Ext β' own' s' w' β'' own'' s'' w'') :
  Ext β own s w β'' own'' s'' w'' where
 le := Bij.le_trans h.le h'.le
 new i hi := by
  rcases h'.new i hi with h1 | h1
  ·rcases h.new i h1 with h2 | h2
   ·exact .inl h2
   ·have := h'.nle; exact .inr ⟨h2.1, Z4⟩
  ·have := h.nle; exact .inr ⟨Z4, h1.2⟩
 nle := Nat.le_trans h.nle h'.nle
 aframe i hi hd := by
  have hd' : ¬ β'.dom i := fun x => by
   rcases h.new i x with h1 | h1
   ·exact hd h1
   ·omega
  rw [h'.aframe i (Nat.lt_of_lt_of_le hi h.nle) hd', h.aframe i hi hd]
 size := Nat.le_trans h.size h'.size
 cframe b hb ho := by
  obtain ⟨h1, h2⟩ := h.cframe b hb fun i hi => Nat.le_trans h'.nle (ho i hi)
  obtain ⟨h3, h4⟩ := h'.cframe b (Nat.lt_of_lt_of_le hb h.size) fun i hi => ho i (h1 ▸ hi)
  exact ⟨h3.trans h1, h4.trans h2⟩
 os := h'.os.trans h.os
 tape := h'.tape.trans h.tape
 output := h'.output.trans h.output
 keep i hi :=
  let h1 := h'.keep i hi
  let h2 := h.keep i (Nat.le_trans h'.nle hi)
  ⟨h1.1.trans h2.1, h1.2.1.trans h2.2.1, h1.2.2.trans h2.2.2⟩
 virn i hi := by
  rcases h'.virn i hi with h1 | h1
  ·exact h.virn i h1
  ·exact .inr (Nat.le_trans h.nle h1)
 drawn := h.drawn.trans h'.drawn
theorem Free.left {β : Bij} {s s' s'' : St} (h : Free β s s'') (h' : s'.n ≤ s''.n) : Free β s s' := fun i hi => (h i hi).imp id fun x => Nat.le_trans h' x
theorem Free.right {β β' : Bij} {own own' : Nat → Option Nat} {s s' s'' : St} {w w' : World} (h : Free β s s'') (e : Ext β own s w β' own' s' w') : Free β' s' s'' := fun i hi => by
 rcases e.new i hi with h1 | h1
 ·exact (h i h1).imp (fun x => Nat.lt_of_lt_of_le x e.nle) id
 ·exact .inl h1.2
theorem SR.congr {K : Code → Prop} {β : Bij} {own : Nat → Option Nat} {g g' : Nat → Option AObj} {w : World} (h : SR K β own g w) (hg : ∀ i, β.dom i → g' i = g i) : SR K β own g' w where
 obj i b hb := by
  obtain ⟨h1, h2, h3⟩ := h.obj i b hb;exact ⟨h1, h2, fun o ho => h3 o (by rw [← hg i (.inl ⟨b, hb⟩)]; exact ho)⟩
 arr i hi L hL cs mv ro hc := h.arr i hi L hL cs mv ro (by rw [← hg i (.inr ⟨hi, L, hL⟩)]; exact hc)
 loc := h.loc
 blk := h.blk
 one := h.one
 small := h.small
 vir := h.vir
 ice := h.ice
end Go.Ai