/- The interpreter: what holds of it. -/
import Derived.Test.YtdgadbbjnhnkeaaGreatDoorAiLay
import Derived.Test.YtdgadbbjnhnkeaaGreatDoorAiCon
import Derived.LaidLaws
set_option linter.unusedVariables false
set_option linter.unusedSimpArgs false
set_option linter.unnecessarySimpa false
/-
  Closed runs in parts: calls whose answers are known, and memory without what nobody can reach any more.
-/
namespace Go.Ai

/-! ### equal for the kernel -/
def eqInt : Int → Int → Bool
  | .ofNat a, .ofNat b => Nat.beq a b
  | .negSucc a, .negSucc b => Nat.beq a b
  | _, _ => false
theorem eqInt_eq {a b : Int} (h : eqInt a b = true) : a = b := by
  cases a <;> cases b <;> simp only [eqInt, Bool.false_eq_true] at h
  · rw [Nat.eq_of_beq_eq_true h]
  · rw [Nat.eq_of_beq_eq_true h]
def eqON : Option Nat → Option Nat → Bool
  | none, none => true
  | some a, some b => Nat.beq a b
  | _, _ => false
theorem eqON_eq {a b : Option Nat} (h : eqON a b = true) : a = b := by
  cases a <;> cases b <;> simp only [eqON, Bool.false_eq_true] at h
  · rfl
  · rw [Nat.eq_of_beq_eq_true h]
def eqA : Option Addr → Option Addr → Bool
  | none, none => true
  | some a, some b => Nat.beq a.block b.block && (Nat.beq a.off b.off && eqON a.spot b.spot)
  | _, _ => false
theorem eqA_eq {a b : Option Addr} (h : eqA a b = true) : a = b := by
  cases a with
  | none => cases b with
    | none => rfl
    | some b => cases h
  | some a => cases b with
    | none => cases h
    | some b =>
      obtain ⟨a1, a2, a3⟩ := a
      obtain ⟨b1, b2, b3⟩ := b
      simp only [eqA, Bool.and_eq_true] at h
      rw [Nat.eq_of_beq_eq_true h.1, Nat.eq_of_beq_eq_true h.2.1, eqON_eq h.2.2]
def eqBs : List UInt8 → List UInt8 → Bool
  | [], [] => true
  | a :: l, b :: m => Nat.beq a.toNat b.toNat && eqBs l m
  | _, _ => false
theorem eqBs_eq : ∀ {l m : List UInt8}, eqBs l m = true → l = m
  | [], [], _ => rfl
  | [], _ :: _, h => by cases h
  | _ :: _, [], h => by cases h
  | a :: l, b :: m, h => by
    simp only [eqBs, Bool.and_eq_true] at h
    rw [UInt8.toNat_inj.1 (Nat.eq_of_beq_eq_true h.1), eqBs_eq h.2]
def eqV1 : Value → Value → Bool
  | .bool true, .bool true => true
  | .bool false, .bool false => true
  | .int k a, .int j b => decide (k = j) && eqInt a b
  | .string a, .string b => eqBs a.data.toList b.data.toList
  | .pointer a, .pointer b => eqA a b
  | .slice a l c, .slice b m d => eqA a b && (Nat.beq l m && Nat.beq c d)
  | .map a, .map b => eqON a b
  | .chan a, .chan b => eqON a b
  | .nilFunc, .nilFunc => true
  | .nilIface, .nilIface => true
  | .func (.func f) ⟨[]⟩ ⟨[]⟩, .func (.func g) ⟨[]⟩ ⟨[]⟩ => Nat.beq f g
  | _, _ => false
theorem eqV1_eq {a b : Value} (h : eqV1 a b = true) : a = b := by
  unfold eqV1 at h
  split at h
  · rfl
  · rfl
  · rw [Bool.and_eq_true] at h
    rw [of_decide_eq_true h.1, eqInt_eq h.2]
  · rename_i a b
    obtain ⟨⟨a⟩⟩ := a
    obtain ⟨⟨b⟩⟩ := b
    rw [show a = b from eqBs_eq h]
  · rw [eqA_eq h]
  · rw [Bool.and_eq_true, Bool.and_eq_true] at h
    rw [eqA_eq h.1, Nat.eq_of_beq_eq_true h.2.1, Nat.eq_of_beq_eq_true h.2.2]
  · rw [eqON_eq h]
  · rw [eqON_eq h]
  · rfl
  · rfl
  · rw [Nat.eq_of_beq_eq_true h]
  · cases h
def eqL (f : Value → Value → Bool) : List Value → List Value → Bool
  | [], [] => true
  | a :: l, b :: m => f a b && eqL f l m
  | _, _ => false
theorem eqL_eq {f : Value → Value → Bool} (hf : ∀ {a b}, f a b = true → a = b) : ∀ {l m : List Value}, eqL f l m = true → l = m
  | [], [], _ => rfl
  | [], _ :: _, h => by cases h
  | _ :: _, [], h => by cases h
  | a :: l, b :: m, h => by
    simp only [eqL, Bool.and_eq_true] at h
    rw [hf h.1, eqL_eq hf h.2]
/-- parts of parts, so deep -/
def eqVn : Nat → Value → Value → Bool
  | 0, a, b => eqV1 a b
  | n + 1, .agg a, .agg b => eqL (eqVn n) a.toList b.toList
  | n + 1, .tuple a, .tuple b => eqL (eqVn n) a.toList b.toList
  | n + 1, .iface t a, .iface u b => Nat.beq t u && eqVn n a b
  | _ + 1, a, b => eqV1 a b
theorem eqVn_eq : ∀ (n : Nat) {a b : Value}, eqVn n a b = true → a = b
  | 0, _, _, h => eqV1_eq h
  | n + 1, a, b, h => by
    unfold eqVn at h
    split at h
    · rename_i e; cases e
    · rename_i e
      cases e
      rw [Array.toList_inj.1 (eqL_eq (eqVn_eq n) h)]
    · rename_i e
      cases e
      rw [Array.toList_inj.1 (eqL_eq (eqVn_eq n) h)]
    · rename_i e
      cases e
      rw [Bool.and_eq_true] at h
      rw [Nat.eq_of_beq_eq_true h.1, eqVn_eq n h.2]
    · exact eqV1_eq h
def eqE : List MapEntry → List MapEntry → Bool
  | [], [] => true
  | a :: l, b :: m => Nat.beq a.born b.born && (eqVn 2 a.key b.key && (eqVn 2 a.val b.val && eqE l m))
  | _, _ => false
theorem eqE_eq : ∀ {l m : List MapEntry}, eqE l m = true → l = m
  | [], [], _ => rfl
  | [], _ :: _, h => by cases h
  | _ :: _, [], h => by cases h
  | ⟨a1, a2, a3⟩ :: l, ⟨b1, b2, b3⟩ :: m, h => by
    simp only [eqE, Bool.and_eq_true] at h
    rw [Nat.eq_of_beq_eq_true h.1, eqVn_eq 2 h.2.1, eqVn_eq 2 h.2.2.1, eqE_eq h.2.2.2]
def eqObj : AObj → AObj → Bool
  | .cells a, .cells b => eqL (eqVn 2) a b
  | .arr a m false, .arr b n false => Nat.beq m n && eqL (eqVn 2) a b
  | .arr a m true, .arr b n true => Nat.beq m n && eqL (eqVn 2) a b
  | .map a c, .map b d => Nat.beq c d && eqE a b
  | .dead, .dead => true
  | _, _ => false
theorem eqObj_eq {a b : AObj} (h : eqObj a b = true) : a = b := by
  unfold eqObj at h
  split at h
  · rw [eqL_eq (eqVn_eq 2) h]
  · rw [Bool.and_eq_true] at h
    rw [Nat.eq_of_beq_eq_true h.1, eqL_eq (eqVn_eq 2) h.2]
  · rw [Bool.and_eq_true] at h
    rw [Nat.eq_of_beq_eq_true h.1, eqL_eq (eqVn_eq 2) h.2]
  · rw [Bool.and_eq_true] at h
    rw [Nat.eq_of_beq_eq_true h.1, eqE_eq h.2]
  · rfl
  · cases h
def eqO : Option AObj → Option AObj → Bool
  | none, none => true
  | some a, some b => eqObj a b
  | _, _ => false
theorem eqO_eq {a b : Option AObj} (h : eqO a b = true) : a = b := by
  cases a <;> cases b <;> simp only [eqO, Bool.false_eq_true] at h
  · rfl
  · rw [eqObj_eq h]
def eqSt (s s2 : St) : Bool := Nat.beq s.n s2.n && (List.range s.n).all fun i => eqO (s.get i) (s2.get i)
theorem eqSt_eq {s s2 : St} (h : eqSt s s2 = true) (hw : s.WF) (hw2 : s2.WF) : s.n = s2.n ∧ ∀ i, s.get i = s2.get i := by
  simp only [eqSt, Bool.and_eq_true, List.all_eq_true, List.mem_range] at h
  have hn := Nat.eq_of_beq_eq_true h.1
  refine ⟨hn, fun i => ?_⟩
  by_cases hi : i < s.n
  · exact eqO_eq (h.2 i hi)
  · rw [hw i (by omega), hw2 i (by omega)]

/-! ### what nobody reaches is left out -/
structure Drop (k : Nat) (s s2 : St) : Prop where
  n : s2.n = s.n
  old : ∀ i, i < k → s2.get i = s.get i
  new : ∀ i, s2.get i = s.get i ∨ s2.get i = none
def noneB : Option AObj → Bool
  | none => true
  | some _ => false
def dropB (k : Nat) (s s2 : St) : Bool := Nat.beq s2.n s.n && ((List.range k).all (fun i => eqO (s2.get i) (s.get i)) && (List.range s2.n).all fun i => noneB (s2.get i) || eqO (s2.get i) (s.get i))
theorem dropB_ok {k : Nat} {s s2 : St} (h : dropB k s s2 = true) (hw : s2.WF) : Drop k s s2 := by
  simp only [dropB, Bool.and_eq_true, List.all_eq_true, List.mem_range] at h
  refine ⟨Nat.eq_of_beq_eq_true h.1, fun i hi => eqO_eq (h.2.1 i hi), fun i => ?_⟩
  by_cases hi : i < s2.n
  · have := h.2.2 i hi
    rw [Bool.or_eq_true] at this
    rcases this with q | q
    · refine .inr ?_
      cases e : s2.get i with
      | none => rfl
      | some o => rw [e] at q; cases q
    · exact .inl (eqO_eq q)
  · exact .inr (hw i (by omega))
theorem Drop.wf {k : Nat} {s s2 : St} (h : Drop k s s2) (hw : s.WF) : s2.WF := fun i hi => by
  rcases h.new i with e | e
  · rw [e]; exact hw i (by have := h.n; omega)
  · exact e
theorem Drop.grow {s0 s s2 : St} (h : Drop s0.n s s2) (hw : s0.WF) (g : Grow s0 s) : Grow s0 s2 := by
  refine ⟨by rw [h.n]; exact g.n, fun l hl => ?_⟩
  have : l < s0.n := by
    cases e : s0.get l with
    | none => rw [e] at hl; cases hl
    | some o => exact hw.lt e
  rw [h.old l this]
  exact g.loop l hl
section
variable {K : Code → Prop} {β β' : Bij} {own own' : Nat → Option Nat} {w w' : World}
theorem SR.drop {g g' : Nat → Option AObj} (h : SR K β own g w) (hg : ∀ i, g' i = g i ∨ g' i = none) : SR K β own g' w where
  obj i b hb := by
    obtain ⟨q1, q2, q3⟩ := h.obj i b hb
    refine ⟨q1, q2, fun o ho => q3 o ?_⟩
    rcases hg i with e | e
    · rw [← e]; exact ho
    · rw [e] at ho; cases ho
  arr i hi L hL cs mv ro hc := by
    refine h.arr i hi L hL cs mv ro ?_
    rcases hg i with e | e
    · rw [← e]; exact hc
    · rw [e] at hc; cases hc
  loc := h.loc
  blk := h.blk
  one := h.one
  small := h.small
  vir := h.vir
  ice := h.ice
theorem Ext.drop {s0 s s2 : St} (h : Ext β own s0 w β' own' s w') (hd : Drop s0.n s s2) : Ext β own s0 w β' own' s2 w' where
  le := h.le
  new i hi := by rw [hd.n]; exact h.new i hi
  nle := by rw [hd.n]; exact h.nle
  aframe i hi hn := by rw [hd.old i hi]; exact h.aframe i hi hn
  size := h.size
  cframe b hb ho := h.cframe b hb fun i hi => by rw [← hd.n]; exact ho i hi
  os := h.os
  tape := h.tape
  output := h.output
  keep i hi := h.keep i (by rw [← hd.n]; exact hi)
  virn := h.virn
  drawn := h.drawn
theorem Ext.at {s0 s1 s : St} (h : Ext β own s0 w β' own' s w') (hn : s1.n = s0.n) (hg : ∀ i, s1.get i = s0.get i) : Ext β own s1 w β' own' s w' where
  le := h.le
  new i hi := by rw [hn]; exact h.new i hi
  nle := by rw [hn]; exact h.nle
  aframe i hi hx := by rw [hg]; exact h.aframe i (by rw [← hn]; exact hi) hx
  size := h.size
  cframe := h.cframe
  os := h.os
  tape := h.tape
  output := h.output
  keep := h.keep
  virn i hi := by rw [hn]; exact h.virn i hi
  drawn := h.drawn
end

/-! ### known answers -/
structure Ent where
  f : FuncId
  args : List Value
  s : St
  v : Value
  s' : St
def hitE (f : FuncId) (args : List Value) (s : St) (e : Ent) : Bool := Nat.beq e.f f && (Nat.beq e.s.n s.n && (eqL (eqVn 2) e.args args && eqSt e.s s))
def hitO (rc : Rec) (f : FuncId) (args : List Value) (s : St) : Option Ent → M (Res × St)
  | some e => .ret (.val e.v, e.s')
  | none => rc (.call f args) s
def hitT (tbl : List Ent) (rc : Rec) : Rec
  | .call f args, s => hitO rc f args s (tbl.find? (hitE f args s))
  | .code fid c e, s => rc (.code fid c e) s
  | .round l args, s => rc (.round l args) s
section
variable {P : Program} {C : Cfg} {G : Nat}
def EntOk (P : Program) (G : Nat) (e : Ent) : Prop := e.s.WF ∧ ∃ rc, Sound P G rc ∧ ∃ s1, rc (.call e.f e.args) e.s = .ret (.val e.v, s1) ∧ Drop e.s.n s1 e.s'
theorem sound_hitT {tbl : List Ent} {rc : Rec} (h : Sound P G rc) (ht : ∀ e ∈ tbl, EntOk P G e) : Sound P G (hitT tbl rc) where
  grow := by
    intro t s hw x hx
    cases t with
    | call f args =>
      simp only [hitT] at hx
      cases he : tbl.find? (hitE f args s) with
      | none => rw [he] at hx; exact h.grow _ _ hw _ hx
      | some e =>
        rw [he] at hx
        cases hx
        obtain ⟨hw1, rc1, S1, s1, r1, d1⟩ := ht e (List.mem_of_find?_eq_some he)
        have hp := List.find?_some he
        simp only [hitE, Bool.and_eq_true] at hp
        obtain ⟨hn, hg⟩ := eqSt_eq hp.2.2.2 hw1 hw
        obtain ⟨g1, g2⟩ := S1.grow _ _ hw1 (.val e.v, s1) (by rw [r1]; exact .ret _)
        have g3 := d1.grow hw1 g1
        exact ⟨⟨by rw [← hn]; exact g3.n, fun l hl => g3.loop l (by rw [hg]; exact hl)⟩, d1.wf g2⟩
    | code fid c e => exact h.grow (.code fid c e) _ hw _ hx
    | round l args => exact h.grow (.round l args) _ hw _ hx
  call := by
    intro β own s w f args args' hs hw hG ha hf cs
    simp only [hitT] at hf ⊢
    cases he : tbl.find? (hitE f args s) with
    | none => rw [he] at hf; exact h.call β own s w f args args' hs hw hG ha hf cs
    | some e =>
      rw [he] at hf
      obtain ⟨hw1, rc1, S1, s1, r1, d1⟩ := ht e (List.mem_of_find?_eq_some he)
      have hp := List.find?_some he
      simp only [hitE, Bool.and_eq_true] at hp
      obtain ⟨hn, hg⟩ := eqSt_eq hp.2.2.2 hw1 hw
      obtain rfl := Nat.eq_of_beq_eq_true hp.1
      obtain rfl := eqL_eq (eqVn_eq 2) hp.2.2.1
      have hs1 : SR (okK G) β own e.s.get w := hs.congr fun i _ => hg i
      have hF : Free β s e.s' := hf
      have hfr : (rc1 (.call e.f e.args) e.s).All fun x => Free β e.s x.2 := by
        rw [r1]
        show Free β e.s s1
        intro i hi
        have := hF i hi
        rw [d1.n] at this
        rw [hn]
        exact this
      obtain ⟨v, s', β', own', w', v', q1, q2, q3, q4, q5, q6⟩ := S1.call β own e.s w e.f e.args args' hs1 hw1 hG ha hfr cs
      rw [r1] at q1
      cases q1
      exact ⟨_, _, β', own', w', v', .ret _, (q2.drop d1).at hn.symm fun i => (hg i).symm, q3.drop d1.new, q4, q5, q6⟩
  round := h.round
  code := h.code
variable (C)
def runH (tbl : List Ent) : Nat → Rec
  | 0 => fun _ _ => .fail
  | n + 1 => hitT tbl (istep C (runH tbl n))
variable {C}
theorem sound_runH (H : CfgOk P C (okK G)) {tbl : List Ent} (ht : ∀ e ∈ tbl, EntOk P G e) : ∀ n, Sound P G (runH C tbl n)
  | 0 => sound_run H 0
  | n + 1 => sound_hitT ((sound_runH H ht n).step H) ht

/-- things with their numbers -/
def stL (n : Nat) (L : List (Nat × AObj)) : St := ⟨L.foldl (fun t x => t.set x.1 x.2) .e, n⟩
theorem wf_stL {n : Nat} {L : List (Nat × AObj)} (h : (L.all fun x => Nat.blt x.1 n) = true) : (stL n L).WF := by
  have key : ∀ (L : List (Nat × AObj)) (t : T AObj), (L.all fun x => Nat.blt x.1 n) = true → (∀ i, n ≤ i → t.get i = none) → ∀ i, n ≤ i → (L.foldl (fun t x => t.set x.1 x.2) t).get i = none := by
    intro L
    induction L with
    | nil => intro t _ ht; exact ht
    | cons x L ih =>
      intro t hL ht i hi
      rw [List.all_cons, Bool.and_eq_true] at hL
      refine ih _ hL.2 (fun j hj => ?_) i hi
      rw [T.get_set, if_neg (by have := Nat.le_of_ble_eq_true hL.1; omega)]
      exact ht j hj
  exact key L .e h fun _ _ => rfl
/-- a part comes to what is told -/
def comesB (k : Nat) (v : Value) (s2 : St) : M (Res × St) → Bool
  | .ret (.val u, s) => eqVn 3 u v && dropB k s s2
  | _ => false
theorem ent_ok (H : CfgOk P C (okK G)) {tbl : List Ent} (ht : ∀ e ∈ tbl, EntOk P G e) (n : Nat) {f : FuncId} {args : List Value} {s : St} {v : Value} {s2 : St} (hw : s.WF) (hw2 : s2.WF)
    (h : comesB s.n v s2 (istep C (runH C tbl n) (.call f args) s) = true) : EntOk P G ⟨f, args, s, v, s2⟩ := by
  refine ⟨hw, _, (sound_runH H ht n).step H, ?_⟩
  unfold comesB at h
  split at h
  · rename_i u s1 e
    rw [Bool.and_eq_true] at h
    obtain rfl := eqVn_eq 3 h.1
    exact ⟨s1, e, dropB_ok h.2 hw2⟩
  · cases h
theorem ents_nil : ∀ e ∈ ([] : List Ent), EntOk P G e := fun _ h => by cases h
theorem ents_cons {e : Ent} {l : List Ent} (h : EntOk P G e) (ht : ∀ e ∈ l, EntOk P G e) : ∀ x ∈ e :: l, EntOk P G x := fun x hx => by
  rcases List.mem_cons.1 hx with rfl | hx
  · exact h
  · exact ht x hx
end
end Go.Ai
/-
  Package-level variables that hold errors: rows of one cell, of which the dynamic type is known; contracts of functions that read no variables, among code that does.
-/
namespace Go.Ai
open Go.ChangeShapes Go.WideShapes Go.RowKit

/-- an error of a known dynamic type -/
def errCell (T : TypeId) : List Value := [.iface T (.chan (some 0))]
def isErr (T : TypeId) : Option AObj → Bool
  | some (.arr [.iface t (.chan (some c))] mv true) => Nat.beq t T && (Nat.beq c 0 && Nat.beq mv 0)
  | _ => false
theorem isErr_eq {T : TypeId} {o : Option AObj} (h : isErr T o = true) : o = some (.arr (errCell T) 0 true) := by
  unfold isErr at h
  split at h
  · simp only [Bool.and_eq_true] at h
    obtain ⟨h1, h2, h3⟩ := h
    rw [Nat.eq_of_beq_eq_true h1, Nat.eq_of_beq_eq_true h2, Nat.eq_of_beq_eq_true h3]
    rfl
  · cases h
def glob3 (T : TypeId) : St := (((St.empty 0).new (.arr (errCell T) 0 true)).new (.arr (errCell T) 0 true)).new (.arr (errCell T) 0 true)
theorem glob3_wf (T : TypeId) : (glob3 T).WF := (((wf_empty 0).new _).new _).new _
theorem glob3_at (T : TypeId) : ∀ i, i < 3 → (glob3 T).get i = some (.arr (errCell T) 0 true) := by
  intro i hi
  rcases (by omega : i = 0 ∨ i = 1 ∨ i = 2) with rfl | rfl | rfl <;> kernel_rfl
theorem glob3_self (T : TypeId) : ∀ i, i < 3 → ORel (idR 3) ((glob3 T).get i) ((glob3 T).get i) := by
  intro i hi
  rw [glob3_at T i hi]
  exact OSub.arr (.cons (.iface (.chan _)) .nil)

def allTrueG (N : Nat) (T : TypeId) : M (Res × St) → Bool
  | .ret (.val v, s) => isTrue v && (Nat.ble s.n N && (isErr T (s.get 0) && (isErr T (s.get 1) && isErr T (s.get 2))))
  | _ => false
theorem allTrueG_all {N : Nat} {T : TypeId} {m : M (Res × St)} (h : allTrueG N T m = true) : m.All fun x => ∃ v, x.1 = .val v ∧ v = .bool true ∧ x.2.n ≤ N ∧ ∀ i, i < 3 → x.2.get i = (glob3 T).get i := by
  unfold allTrueG at h
  split at h
  · rename_i v s
    simp only [Bool.and_eq_true] at h
    obtain ⟨h1, h2, h3, h4, h5⟩ := h
    refine ⟨v, rfl, ?_, Nat.le_of_ble_eq_true h2, fun i hi => ?_⟩
    · unfold isTrue at h1
      split at h1
      · rfl
      · cases h1
    · rw [glob3_at T i hi]
      rcases (by omega : i = 0 ∨ i = 1 ∨ i = 2) with rfl | rfl | rfl
      · exact isErr_eq h3
      · exact isErr_eq h4
      · exact isErr_eq h5
  · cases h

section
variable {P : Program} {w : World}
/-- a variable's cell -/
def ErrAt (w : World) (T : TypeId) (g : Nat) : Prop := ∃ c ty fr v, w.heap[g]? = some (.cells c ty fr) ∧ c[0]? = some (.iface T v) ∧ refy v = true
def blkN (w : World) (g : Nat) : Nat := match w.heap[g]? with
  | some (.cells c _ _) => c.size
  | _ => 0
/-- the memory of the inputs and three variables -/
def layB3 (P : Program) (w : World) : Bij := { layB P w with arr := fun i hi => if i < 3 ∧ hi = 1 then some ⟨i, 0, 0, blkN w i⟩ else none }
theorem layB3_arr {i hi : Nat} {L : ArrLoc} (h : (layB3 P w).arr i hi = some L) : i < 3 ∧ hi = 1 ∧ L = ⟨i, 0, 0, blkN w i⟩ := by
  unfold layB3 at h
  simp only at h
  split at h
  · rename_i hi; exact ⟨hi.1, hi.2, (Option.some.inj h).symm⟩
  · cases h
theorem lay_le3 : (layB P w).le (layB3 P w) := ⟨fun _ _ h => h, (fun _ _ _ h => by cases h), fun _ h => h, fun _ _ _ h => h, fun _ _ h => h⟩
theorem sr_lay3 {K : Code → Prop} {T : TypeId} (h : ∀ g, g < 3 → ErrAt w T g) : SR K (layB3 P w) own00 (glob3 T).get w where
  obj i b h := by cases h
  arr i hi L hL cs mv ro hc := by
    obtain ⟨h1, rfl, rfl⟩ := layB3_arr hL
    rw [glob3_at T i h1] at hc
    simp only [Option.some.injEq, AObj.arr.injEq] at hc
    obtain ⟨rfl, rfl, rfl⟩ := hc
    obtain ⟨c, ty, fr, v, q1, q2, q3⟩ := h i h1
    have hb : blkN w i = c.size := by unfold blkN; rw [q1]
    have hc : 0 < c.size := (Array.getElem?_eq_some_iff.1 q2).1
    refine ⟨Nat.le_refl _, fun _ => ⟨⟨Nat.zero_le _, ?_, c, ty, fr, q1, (fun h => Bool.noConfusion h), hb.symm, fun j _ hj => ?_⟩, (Array.getElem?_eq_some_iff.1 q1).1, rfl⟩⟩
    · show 0 + (1 - 0) ≤ blkN w i
      omega
    · obtain rfl : j = 0 := by omega
      exact ⟨_, _, rfl, q2, .iface (.junk 0 q3 fun i hi => by rw [dec_zero] at hi; cases hi)⟩
  loc i hi hi' L L' h1 h2 h3 := by
    obtain ⟨_, _, rfl⟩ := layB3_arr h1
    obtain ⟨_, _, rfl⟩ := layB3_arr h2
    rfl
  blk i hi L hL := by
    obtain ⟨h1, rfl, rfl⟩ := layB3_arr hL
    obtain ⟨c, ty, fr, v, q1, _⟩ := h i h1
    exact (Array.getElem?_eq_some_iff.1 q1).1
  one i h := by obtain ⟨b, h⟩ := h; cases h
  small b i h := by cases h
  vir i _ h := by cases h
  ice := (sr_lay (K := K) (P := P) (fun _ => none) w).ice.mono rfl (Nat.le_refl _) fun _ _ _ => ⟨rfl, rfl⟩
theorem glob_lay3 : Glob (layB3 P w) 3 := ⟨fun g hg => ⟨⟨g, 0, 0, blkN w g⟩, if_pos ⟨Nat.lt_of_lt_of_le hg (gl_le 3), rfl⟩, rfl, rfl, rfl⟩, fun h => absurd h (by decide)⟩
theorem shut_lay3 {T : TypeId} : Shut (layB3 P w) (glob3 T) := by
  rintro i (⟨b, h⟩ | ⟨hi, L, h⟩ | h)
  · cases h
  · exact (layB3_arr h).1
  · cases h

/-- a listed variable that holds an error of the library's -/
theorem sent_at {n nm : String} {g t U e : Nat} {ms : Array (String × TypeId)} {cs : Array Value} {fuel : Nat} {d : DataW Unit} {p q : List MemPlace} (hu : ∀ u, P.typeName? 3 u = some nm → u = U) (hU : P.underlying U = some (.pointer e)) (ht : P.underlying t = some (.interface ms))
    (hg : P.globalNamed n = some g) (hv : w.var? P n = some cs) (hd : DataW.trod (fun _ => ()) P w 0 (fun _ => true) false fuel t cs.toList = some (.iface nm d, p))
    (hok : ∀ b off, MemPlace.cell b off ∈ MemPlace.row ⟨g, 0, none⟩ cs.size ++ q → ∀ u v, w.cell? ⟨b, off, none⟩ = some (.iface u v) → Value.okWide P w .any 0 u v) : ErrAt w U g := by
  have hh : ∃ ty fr, w.heap[g]? = some (.cells cs ty fr) := by
    unfold World.var? at hv
    rw [hg] at hv
    simp only [Option.bind_some] at hv
    split at hv
    · rename_i h
      cases hv
      exact ⟨_, _, h⟩
    · cases hv
  obtain ⟨ty, fr, hh⟩ := hh
  have hcs : ∃ u v, cs.toList = [.iface u v] ∧ P.typeName? 3 u = some nm := by
    cases fuel with
    | zero => unfold DataW.trod at hd; cases hd
    | succ m =>
      unfold DataW.trod at hd
      rw [ht] at hd
      generalize cs.toList = l at hd
      match l, hd with
      | [.nilIface], hd => simp at hd
      | [.iface u v], hd =>
        refine ⟨u, v, rfl, ?_⟩
        simp only at hd
        cases hn : P.typeName? 3 u with
        | none => rw [hn] at hd; cases hd
        | some name =>
          rw [hn] at hd
          simp only [Option.map_eq_some_iff] at hd
          obtain ⟨x, _, hx⟩ := hd
          simp only [Prod.mk.injEq, DataW.iface.injEq] at hx
          rw [hx.1.1]
  obtain ⟨u, v, hcs, hn⟩ := hcs
  obtain rfl := hu u hn
  have h0 : cs[0]? = some (.iface u v) := by
    rw [← Array.getElem?_toList, hcs]; rfl
  have hsz : cs.size = 1 := by rw [← Array.length_toList, hcs]; rfl
  refine ⟨cs, ty, fr, v, hh, h0, ?_⟩
  have hval := hok g 0 (List.mem_append_left _ (by rw [hsz]; simp [MemPlace.row])) u v (by unfold World.cell?; rw [hh]; simpa using h0)
  unfold Value.okWide at hval
  rw [hU] at hval
  simp only at hval
  cases v <;> first
    | rfl
    | (unfold Cell.okWide Cell.ok at hval; rw [hU] at hval; exact hval.elim)
end

section
variable {P : Program} {C : Cfg} {G : Nat}
/-- a call that comes to a value, whatever it took -/
def valBn (v : Value) (N : Nat) : M (Res × St) → Bool
  | .ret (.val u, s) => eqVn 3 u v && Nat.ble s.n N
  | _ => false
theorem sc_valB (H : CfgOk P C (okK G)) (n N : Nat) {f : FuncId} {args : List Value} {s : St} {v : Value} (h : valBn v N (run C n (.call f args) s) = true) : SC P G f args s fun v1 s1 => v1 = v ∧ s1.n ≤ N := by
  refine sc_rec (sound_run H n) ?_
  unfold valBn at h
  split at h
  · rename_i u s1 e
    rw [Bool.and_eq_true] at h
    rw [e]
    exact ⟨u, rfl, eqVn_eq 3 h.1, Nat.le_of_ble_eq_true h.2⟩
  · cases h
end

/-! ### code that reads no variables -/
theorem okx_up {G : Nat} {x : Operand} (h : okx 0 x = true) : okx G x = true := by
  cases x with
  | global g => exact absurd (of_decide_eq_true (p := g < gl 0) h) (Nat.not_lt_zero g)
  | _ => exact h
theorem okc_up {G : Nat} : ∀ {c : Code}, okc 0 c = true → okc G c = true := by
  intro c
  induction c with
  | region id ops d =>
    intro h
    simp only [okc, Bool.and_eq_true] at h ⊢
    refine ⟨?_, h.2⟩
    rw [Array.all_eq_true_iff_forall_mem] at h ⊢
    intro o ho
    have := h.1 o ho
    simp only [opOk, Bool.and_eq_true] at this ⊢
    refine ⟨?_, this.2⟩
    have h1 := this.1
    rw [Array.all_eq_true_iff_forall_mem] at h1 ⊢
    exact fun x hx => okx_up (h1 x hx)
  | seq a b iha ihb =>
    intro h
    simp only [okc, Bool.and_eq_true] at h ⊢
    exact ⟨iha h.1, ihb h.2⟩
  | cond q a b iha ihb =>
    intro h
    simp only [okc, Bool.and_eq_true] at h ⊢
    exact ⟨⟨okx_up h.1.1, iha h.1.2⟩, ihb h.2⟩
  | block id c ih => intro h; exact ih h
  | loop c ih => intro h; exact ih h
  | scope c ih => intro h; exact ih h
  | rangeFunc f ps a c iha ihc =>
    intro h
    simp only [okc, Bool.and_eq_true] at h ⊢
    exact ⟨⟨okx_up h.1.1, iha h.1.2⟩, ihc h.2⟩
  | _ => intro h; exact h
section
variable {P : Program} {G k N : Nat} {ρ : Nat → Nat} {s s0 : St} {K K' : Code → Prop} {β : Bij} {own : Nat → Option Nat} {w : World}
theorem SR.upK {g : Nat → Option AObj} (h : SR K β own g w) (hk : ∀ i l, g i = some (.loop l) → (K l.assign → K' l.assign) ∧ (K l.body → K' l.body)) : SR K' β own g w where
  obj i b hb := by
    obtain ⟨q1, q2, q3⟩ := h.obj i b hb
    refine ⟨q1, q2, fun o ho => ?_⟩
    have q4 := q3 o ho
    cases o with
    | loop l =>
      obtain ⟨l', h1, h2⟩ := q4
      exact ⟨l', h1, ⟨h2.state, h2.pending, h2.fn, h2.tmps, h2.params, h2.assign, h2.body, (hk i l ho).1 h2.ok1, (hk i l ho).2 h2.ok2⟩⟩
    | iter m => cases m <;> exact q4
    | _ => exact q4
  arr := h.arr
  loc := h.loc
  blk := h.blk
  one := h.one
  small := h.small
  vir := h.vir
  ice := h.ice
/-- a call in a small memory, of code that reads no variables -/
theorem sc_frame0 (W : Nat → Nat → Prop) (F : Fit 0 k ρ s s0) (hnl : ∀ i, ¬ isLoop (s0.get i)) (N : Nat) {f : FuncId} {args args0 : List Value} (hW : ∀ β x, VRs β args x → ∀ j hi, W j hi → ∃ L, β.arr j hi = some L) (ha0 : Subs (fun j _ i => i < k ∧ ρ i = j) args args0) {Q0 Q : Value → St → Prop} (h0 : SC P 0 f args0 s0 Q0)
    (hout : s.WF → ∀ v0 s0', Q0 v0 s0' → s0'.WF → Grow s0 s0' → s0'.n ≤ N ∧ ∃ τ v s', Q v s' ∧ Sub (Ways k ρ τ W) v0 v ∧ Back k ρ W s s0 s0' τ s' ∧
      ∀ i, i < k → (∀ β x, VRs β args x → β.dom (ρ i)) ∨ (s0'.get i = s0.get i → s'.get (ρ i) = s.get (ρ i))) : SCF P G f args s Q := by
  intro hw β own w args' hs hG hfree ha cs
  have hs1 : SR (okK 0) (inB k ρ β) (inO k N ρ own) s0.get w := (in_sr F hs).upK fun i l hl => absurd (by rw [hl]; exact trivial) (hnl i)
  obtain ⟨v0, s0', β0, own0, w', v', hq, hw0, hg0, e0, hs0, hv0, hc1, hc2⟩ := h0 F.wf (inB k ρ β) (inO k N ρ own) w args' hs1 glob_none (in_shut F) (ha0.vr in_moves ha) cs
  have hs0' : SR (okK G) β0 own0 s0'.get w' := hs0.upK fun _ _ _ => ⟨okc_up, okc_up⟩
  obtain ⟨hN, τ, v, s', hq', hsub, B, hsame⟩ := hout hw v0 s0' hq hw0 hg0
  obtain ⟨β', own', e, hs', hm, _⟩ := frame_out F hs (hfree v s' hq') e0 hs0' hN B (hW _ _ ha) fun i hi hd => (hsame i hi).resolve_left fun h => hd (h _ _ ha)
  exact ⟨v, s', β', own', w', v', hq', B.wf, B.grow, e, hs', hsub.vr hm hv0, hc1, hc2⟩
theorem scf_pureG {f : FuncId} {args : List Value} {s : St} {v : Value} (N : Nat) (hargs : Subs (idR 0) args args) (hv : Sub (idR 0) v v) (h : SC P 0 f args (St.empty 0) fun v1 s1 => v1 = v ∧ s1.n ≤ N) : SCF P G f args s fun v1 s1 => v1 = v ∧ s1 = s := by
  intro hsw
  have hR : ∀ i sp j, idR 0 i sp j → j < 0 ∧ j = i := by rintro i sp j ⟨h, rfl⟩; exact ⟨h, rfl⟩
  refine sc_frame0 (fun _ _ => False) (k := 0) (ρ := fun i => i) (s := s) (s0 := St.empty 0) (fit_id rfl (Nat.zero_le _) (wf_empty 0) (Nat.le_refl 0) (fun i hi => by omega) (fun i hi => by omega)) (fun i h => h) N (fun _ _ _ _ _ h => h.elim) (hargs.mono hR) h ?_ hsw
  rintro _ v0 s0' ⟨rfl, hn⟩ hw0' hg
  refine ⟨hn, _, v0, s, ⟨rfl, rfl⟩, hv.mono ?_, back_id (Nat.zero_le _) hsw (fun i hi => by omega) (fun i hi => by omega) (fun i hi => by omega), fun i hi => .inr fun _ => rfl⟩
  rintro i sp j ⟨h, rfl⟩
  exact .inl (if_pos h)
/-- what a function of data comes to, among code that reads variables -/
def Con.pureG {α : Type} (f : FuncId) (A : α → List Value) (V : α → Value) (Pre : α → Prop) (inj : ∀ x y, A x = A y → x = y) (hA : ∀ x, clo.cloL (A x) = true) (hV : ∀ x, clo (V x) = true) (N : Nat)
    (h : ∀ x, Pre x → SC P 0 f (A x) (St.empty 0) fun v s' => v = V x ∧ s'.n ≤ N) : Con P G where
  f := f
  rel args s v s' := s' = s ∧ ∃ x, Pre x ∧ args = A x ∧ v = V x
  ok := by
    rintro args s v s' ⟨rfl, x, hp, rfl, rfl⟩
    exact scf_pureG N (subs_clo (hA x)) (sub_clo (hV x)) (h x hp)
  grow := by
    rintro args s v s' ⟨rfl, _⟩ hw
    exact ⟨hw, .refl _⟩
  det := by
    rintro args s v s' v1 s1 ⟨rfl, x, _, rfl, rfl⟩ ⟨rfl, y, _, e, rfl⟩
    obtain rfl := inj _ _ e
    exact ⟨rfl, rfl⟩
theorem con_pureG {α : Type} {f : FuncId} {A : α → List Value} {V : α → Value} {Pre : α → Prop} {inj : ∀ x y, A x = A y → x = y} {hA : ∀ x, clo.cloL (A x) = true} {hV : ∀ x, clo (V x) = true} {N : Nat}
    {h : ∀ x, Pre x → SC P 0 f (A x) (St.empty 0) fun v s' => v = V x ∧ s'.n ≤ N} (x : α) (hp : Pre x) (s : St) : (Con.pureG (G := G) f A V Pre inj hA hV N h).rel (A x) s (V x) s := ⟨rfl, x, hp, rfl, rfl⟩
/-- a closed fact in a memory that begins with the variables, from a run in parts -/
theorem scf_closed3 {C : Cfg} (H : CfgOk P C (okK 3)) {tbl : List Ent} (ht : ∀ e ∈ tbl, EntOk P 3 e) (n N : Nat) {T : TypeId} {f : FuncId} (h : allTrueG N T (istep C (runH C tbl n) (.call f []) (glob3 T)) = true) {s : St} (hn : 3 ≤ s.n) (hget : ∀ i, i < 3 → s.get i = (glob3 T).get i) :
    SCF P 3 f [] s fun v1 s1 => v1 = .bool true ∧ s1 = s := by
  intro hw
  refine sc_frame (fun _ _ => False) (G := 3) (k := 3) (ρ := fun i => i) (s := s) (s0 := glob3 T) (fit_id rfl hn (glob3_wf T) (gl_le 3) hget (glob3_self T)) N (fun _ _ _ _ _ h => h.elim) (args := []) (args0 := []) .nil
    (sc_rec (Q := fun v x => v = .bool true ∧ x.n ≤ N ∧ ∀ i, i < 3 → x.get i = (glob3 T).get i) ((sound_runH H ht n).step H) (allTrueG_all h)) ?_ hw
  rintro _ v0 s0' ⟨rfl, hN, hsame⟩ hw0' hg
  exact ⟨hN, _, .bool true, s, ⟨rfl, rfl⟩, .bool true, back_id hn hw hget (glob3_self T) hsame, fun i hi => .inr fun _ => rfl⟩
def Con.closed3 {C : Cfg} (H : CfgOk P C (okK 3)) {tbl : List Ent} (ht : ∀ e ∈ tbl, EntOk P 3 e) (n N : Nat) (T : TypeId) (f : FuncId) (h : allTrueG N T (istep C (runH C tbl n) (.call f []) (glob3 T)) = true) : Con P 3 where
  f := f
  rel args s v s' := args = [] ∧ v = .bool true ∧ s' = s ∧ 3 ≤ s.n ∧ ∀ i, i < 3 → s.get i = (glob3 T).get i
  ok := by
    rintro args s v s' ⟨rfl, rfl, rfl, hn, hget⟩
    exact scf_closed3 H ht n N h hn hget
  grow := by
    rintro args s v s' ⟨_, _, rfl, _⟩ hw
    exact ⟨hw, .refl _⟩
  det := by
    rintro args s v s' v1 s1 ⟨rfl, rfl, rfl, _⟩ ⟨_, rfl, rfl, _⟩
    exact ⟨rfl, rfl⟩
end
end Go.Ai
namespace Go.Ai
/-! ### the name of the library's errors -/
def maybeErr (P : Program) (u : TypeId) : Bool :=
  match P.info? u with
  | some i => match i.desc with
    | .named n _ => n == "*errors.errorString"
    | .pointer e => (match P.info? e with
      | some j => match j.desc with
        | .named n _ => n == "errors.errorString"
        | .bool | .int _ | .float _ | .string => j.str == "errors.errorString"
        | _ => false
      | none => false)
    | .bool | .int _ | .float _ | .string => i.str == "*errors.errorString"
    | _ => false
  | none => false
theorem star_cancel {a : String} (h : "*" ++ a = "*errors.errorString") : a = "errors.errorString" :=
  (String.append_right_inj "*").1 (h.trans (by decide +kernel : "*errors.errorString" = "*" ++ "errors.errorString"))
theorem star_head {a : String} (h : "*" ++ a = "errors.errorString") : False := by
  have h := congrArg (fun s => s.toList.head?) h
  revert h
  rw [String.toList_append]
  simp
theorem errName {P : Program} {u : TypeId} (h : P.typeName? 3 u = some "*errors.errorString") : maybeErr P u = true := by
  unfold Program.typeName? at h
  unfold maybeErr
  split at h
  · rename_i i hi
    rw [hi]
    simp only
    split at h
    · rename_i n t hd
      rw [hd]
      simp only
      split at h
      · obtain rfl := Option.some.inj h; exact beq_self_eq_true _
      · cases h
    · rename_i e hd
      rw [hd]
      simp only
      rw [Option.map_eq_some_iff] at h
      obtain ⟨a, ha, h⟩ := h
      obtain rfl := star_cancel h
      unfold Program.typeName? at ha
      split at ha
      · rename_i j hj
        rw [hj]
        simp only
        split at ha
        · rename_i n t hd'
          rw [hd']
          simp only
          split at ha
          · obtain rfl := Option.some.inj ha; exact beq_self_eq_true _
          · cases ha
        · rw [Option.map_eq_some_iff] at ha
          obtain ⟨b, _, hb⟩ := ha
          exact (star_head hb).elim
        all_goals first
          | (rename_i hd'
             rw [hd']
             simp only
             split at ha
             · cases ha
             · rw [Option.some.inj ha]; exact beq_self_eq_true _)
          | cases ha
      · cases ha
    all_goals first
      | (rename_i hd
         rw [hd]
         simp only
         split at h
         · cases h
         · rw [Option.some.inj h]; exact beq_self_eq_true _)
      | cases h
  · cases h
def basicErr (P : Program) (u : TypeId) : Bool :=
  match P.info? u with
  | some i => match i.desc with
    | .bool | .int _ | .float _ | .string => i.str == "errors.errorString"
    | _ => false
  | none => false
theorem errNamed {P : Program} {u : TypeId} (h : P.typeName? 2 u = some "errors.errorString") : basicErr P u = true ∨ (match (P.info? u).map (·.desc) with | some (TypeDesc.named _ _) => true | _ => false) = true := by
  unfold Program.typeName? at h
  unfold basicErr
  split at h
  · rename_i i hi
    rw [hi]
    simp only [Option.map_some]
    split at h
    · rename_i n t hd
      rw [hd]
      exact .inr rfl
    · rw [Option.map_eq_some_iff] at h
      obtain ⟨b, _, hb⟩ := h
      exact (star_head hb).elim
    all_goals first
      | (rename_i hd
         rw [hd]
         simp only
         split at h
         · cases h
         · exact .inl (by rw [Option.some.inj h]; exact beq_self_eq_true _))
      | cases h
  · cases h
theorem errType {P : Program} {U : Nat} (h : ((List.range P.types.size).all fun u => !maybeErr P u || Nat.beq u U) = true) (h2 : ((List.range P.types.size).all fun u => !basicErr P u) = true) : ∀ u, P.typeName? 3 u = some "*errors.errorString" → u = U := by
  have star : "*" ++ "errors.errorString" = "*errors.errorString" := by decide
  intro u hu
  refine typeName_ptr_named (nm := "errors.errorString") ?_ ?_ (by decide) u (by rw [star]; exact hu)
  · rw [List.all_eq_true]
    intro x hx
    rw [star]
    by_cases q : P.typeName? 3 x = some "*errors.errorString"
    · have := List.all_eq_true.1 h x hx
      rw [errName q] at this
      rw [Nat.eq_of_beq_eq_true this]
      simp
    · simp [q]
  · rw [List.all_eq_true]
    intro x hx
    by_cases q : P.typeName? 2 x = some "errors.errorString"
    · rcases errNamed q with e | e
      · have := List.all_eq_true.1 h2 x hx
        rw [e] at this
        cases this
      · rw [Bool.or_eq_true]
        refine .inr ?_
        revert e
        cases (P.info? x).map (·.desc) with
        | none => intro e; cases e
        | some d => cases d <;> intro e <;> first | rfl | cases e
    · simp [q]
end Go.Ai
namespace Go.Ai
/-- memory that differs from another one in a few things -/
def stD (s : St) (n : Nat) (L : List (Nat × AObj)) : St := ⟨L.foldl (fun t x => t.set x.1 x.2) s.h, n⟩
theorem wf_stD {s : St} {n : Nat} {L : List (Nat × AObj)} (hs : s.WF) (hn : Nat.ble s.n n = true) (h : (L.all fun x => Nat.blt x.1 n) = true) : (stD s n L).WF := by
  have key : ∀ (L : List (Nat × AObj)) (t : T AObj), (L.all fun x => Nat.blt x.1 n) = true → (∀ i, n ≤ i → t.get i = none) → ∀ i, n ≤ i → (L.foldl (fun t x => t.set x.1 x.2) t).get i = none := by
    intro L
    induction L with
    | nil => intro t _ ht; exact ht
    | cons x L ih =>
      intro t hL ht i hi
      rw [List.all_cons, Bool.and_eq_true] at hL
      refine ih _ hL.2 (fun j hj => ?_) i hi
      rw [T.get_set, if_neg (by have := Nat.le_of_ble_eq_true hL.1; omega)]
      exact ht j hj
  exact key L s.h h fun i hi => hs i (Nat.le_trans (Nat.le_of_ble_eq_true hn) hi)
end Go.Ai
/-
  Calls that the kernel runs in the midst of a proof; contracts for one memory, or behind the variables.
-/
namespace Go.Ai
def retSt : M (Res × St) → St
  | .ret (_, s) => s
  | _ => St.empty 0
def retIs (v : Value) : M (Res × St) → Bool
  | .ret (.val u, _) => eqVn 3 u v
  | _ => false
theorem runFact {m : M (Res × St)} {v : Value} (h : retIs v m = true) : m = .ret (.val v, retSt m) := by
  unfold retIs at h
  split at h
  · rename_i u s
    rw [eqVn_eq 3 h]
    rfl
  · cases h
section
variable {P : Program} {G : Nat}
/-- a run in which these calls are answered, and all the others are run -/
theorem rc_con2 {rc0 : Rec} (h0 : Sound P G rc0) (cs : List (Con P G)) (hn : nodupB (cs.map Con.f) = true) : ∃ rc, Sound P G rc ∧ (∀ c ∈ cs, ∀ args s v s', c.rel args s v s' → rc (.call c.f args) s = .ret (.val v, s')) ∧ ∀ f args s, (cs.map Con.f).contains f = false → rc (.call f args) s = rc0 (.call f args) s := by
  have huniq : ∀ (cs : List (Con P G)), nodupB (cs.map Con.f) = true → ∀ c ∈ cs, ∀ c' ∈ cs, c.f = c'.f → c = c' := by
    intro cs
    induction cs with
    | nil => intro _ c h; cases h
    | cons x l ih =>
      intro h c hc c' hc' e
      simp only [List.map_cons, nodupB, Bool.and_eq_true, Bool.not_eq_true', List.any_eq_false] at h
      have no : ∀ y ∈ l, x.f ≠ y.f := fun y hy he => by
        have := h.1 y.f (List.mem_map_of_mem hy)
        rw [he] at this
        exact this (Nat.beq_refl _)
      rcases List.mem_cons.1 hc with h1 | h1
      · rcases List.mem_cons.1 hc' with h2 | h2
        · rw [h1, h2]
        · rw [h1] at e; exact absurd e (no _ h2)
      · rcases List.mem_cons.1 hc' with h2 | h2
        · rw [h2] at e; exact absurd e.symm (no _ h1)
        · exact ih h.2 c h1 c' h2 e
  let Sp : Contract := fun f args s v s' => ∃ c ∈ cs, c.f = f ∧ c.rel args s v s'
  have hSp : SpecOk P G Sp := by
    refine ⟨?_, ?_⟩
    · rintro f args s v s' ⟨c, hc, rfl, h⟩
      exact c.ok _ _ _ _ h
    · rintro f args s v s' ⟨c, hc, rfl, h⟩ hw
      exact c.grow _ _ _ _ h hw
  refine ⟨over (cs.map Con.f) Sp rc0, sound_over hSp h0, fun c hc args s v s' h => ?_, fun f args s h => ?_⟩
  · obtain ⟨v1, s1, ⟨c1, hc1, e1, h1⟩, h2⟩ := over_hit (rc := rc0) (fs := cs.map Con.f) (S := Sp) (f := c.f) (by simpa using List.mem_map_of_mem hc) ⟨c, hc, rfl, h⟩
    obtain rfl := huniq cs hn c1 hc1 c hc e1
    obtain ⟨rfl, rfl⟩ := c1.det _ _ _ _ _ _ h h1
    exact h2
  · show (bif (cs.map Con.f).contains f then _ else rc0 (.call f args) s) = _
    rw [h]
    rfl
/-- a call that leaves what was there as it was -/
theorem scf_of_sc {k N : Nat} {f : FuncId} {args : List Value} {s s0 : St} {v : Value} (hk : s0.n = k) (hn : k ≤ s.n) (hw0 : s0.WF) (hget : ∀ i, i < k → s.get i = s0.get i)
    (hself : ∀ i, i < k → ORel (idR k) (s0.get i) (s0.get i)) (hargs : Subs (idR k) args args) (hv : Sub (idR k) v v) (h : SC P G f args s0 fun v0 s' => v0 = v ∧ s'.n ≤ N ∧ ∀ i, i < k → s'.get i = s0.get i) (hGk : gl G ≤ k) : SCF P G f args s fun v1 s1 => v1 = v ∧ s1 = s := by
  intro hsw
  have hR : ∀ i sp j, idR k i sp j → j < k ∧ j = i := by rintro i sp j ⟨h, rfl⟩; exact ⟨h, rfl⟩
  refine sc_frame (fun _ _ => False) (G := G) (k := k) (ρ := fun i => i) (s := s) (s0 := s0) (fit_id hk hn hw0 hGk hget hself) N (fun _ _ _ _ _ h => h.elim) (hargs.mono hR) h ?_ hsw
  rintro _ v0 s0' ⟨rfl, h1, h2⟩ hw0' hg
  refine ⟨h1, _, v0, s, ⟨rfl, rfl⟩, hv.mono ?_, back_id hn hsw hget hself h2, fun i hi => .inr fun _ => rfl⟩
  rintro i sp j ⟨h, rfl⟩
  exact .inl (if_pos h)
/-- a contract for what begins with one memory -/
def Con.exact {k N : Nat} (f : FuncId) (args : List Value) (s0 : St) (v : Value) (hk : s0.n = k) (hw0 : s0.WF) (hself : ∀ i, i < k → ORel (idR k) (s0.get i) (s0.get i)) (hargs : Subs (idR k) args args) (hv : Sub (idR k) v v)
    (h : SC P G f args s0 fun v0 s' => v0 = v ∧ s'.n ≤ N ∧ ∀ i, i < k → s'.get i = s0.get i) (hGk : gl G ≤ k) : Con P G where
  f := f
  rel a s u s' := a = args ∧ u = v ∧ s' = s ∧ k ≤ s.n ∧ ∀ i, i < k → s.get i = s0.get i
  ok := by
    rintro a s u s' ⟨rfl, rfl, rfl, hn, hget⟩
    exact scf_of_sc hk hn hw0 hget hself hargs hv h hGk
  grow := by
    rintro a s u s' ⟨_, _, rfl, _⟩ hw
    exact ⟨hw, .refl _⟩
  det := by
    rintro a s u s' v1 s1 ⟨rfl, rfl, rfl, _⟩ ⟨_, rfl, rfl, _⟩
    exact ⟨rfl, rfl⟩
/-- a contract of a function of data that may read the variables -/
def Con.pure3 {P : Program} {α : Type} (T : TypeId) (f : FuncId) (A : α → List Value) (V : α → Value) (inj : ∀ x y, A x = A y → x = y) (hA : ∀ x, clo.cloL (A x) = true) (hV : ∀ x, clo (V x) = true) (N : Nat)
    (h : ∀ x, SC P 3 f (A x) (glob3 T) fun v s' => v = V x ∧ s'.n ≤ N ∧ ∀ i, i < 3 → s'.get i = (glob3 T).get i) : Con P 3 where
  f := f
  rel args s v s' := s' = s ∧ (3 ≤ s.n ∧ ∀ i, i < 3 → s.get i = (glob3 T).get i) ∧ ∃ x, args = A x ∧ v = V x
  ok := by
    rintro args s v s' ⟨rfl, ⟨hn, hget⟩, x, rfl, rfl⟩
    exact scf_of_sc rfl hn (glob3_wf T) hget (glob3_self T) (subs_clo (hA x)) (sub_clo (hV x)) (h x) (gl_le 3)
  grow := by
    rintro args s v s' ⟨rfl, _⟩ hw
    exact ⟨hw, .refl _⟩
  det := by
    rintro args s v s' v1 s1 ⟨rfl, _, x, rfl, rfl⟩ ⟨rfl, _, y, e, rfl⟩
    obtain rfl := inj _ _ e
    exact ⟨rfl, rfl⟩
theorem get3 {s : St} {T : TypeId} (h0 : s.get 0 = some (.arr (errCell T) 0 true)) (h1 : s.get 1 = some (.arr (errCell T) 0 true)) (h2 : s.get 2 = some (.arr (errCell T) 0 true)) : ∀ i, i < 3 → s.get i = (glob3 T).get i := fun i hi => by
  rw [glob3_at _ i hi]
  rcases (by omega : i = 0 ∨ i = 1 ∨ i = 2) with rfl | rfl | rfl
  · exact h0
  · exact h1
  · exact h2
theorem get_all {k : Nat} {s s0 : St} (h : (List.range k).map s.get = (List.range k).map s0.get) : ∀ i, i < k → s.get i = s0.get i := fun i hi => by
  have := congrArg (fun l => l[i]?) h
  simpa [List.getElem?_map, List.getElem?_range hi] using this
end
end Go.Ai