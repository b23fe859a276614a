/- The interpreter: what holds of it. -/
import Derived.Test.YtgplkbfjlidinaaDoorAiLay
import Derived.Test.YtgplkbfjlidinaaDoorAiCon
import Derived.LaidLaws
set_option linter.unusedVariables false
set_option linter.unusedSimpArgs false
set_option linter.unnecessarySimpa false
/-
  Closed runs in parts: calls whose answers are known, and memory without what nobody can reach any more.
-/
namespace Go.Ai
/-! ### what nobody reaches is left out -/
structure Drop (k : Nat) (s s2 : St) : Prop where
  n : s2.n = s.n
  old : ∀ i, i < k → s2.get i = s.get i
  new : ∀ i, s2.get i = s.get i ∨ s2.get i = none
theorem Drop.wf {k : Nat} {s s2 : St} (h : Drop k s s2) (hw : s.WF) : s2.WF := fun i hi => by
  rcases h.new i with e | e
  · rw [e]; exact hw i (by have := h.n; omega)
  · exact e
theorem Drop.grow {s0 s s2 : St} (h : Drop s0.n s s2) (hw : s0.WF) (g : Grow s0 s) : Grow s0 s2 := by
  refine ⟨by rw [h.n]; exact g.n, fun l hl => ?_⟩
  have : l < s0.n := by
    cases e : s0.get l with
    | none => rw [e] at hl; cases hl
    | some o => exact hw.lt e
  rw [h.old l this]
  exact g.loop l hl
section
variable {K : Code → Prop} {β β' : Bij} {own own' : Nat → Option Nat} {w w' : World}
theorem SR.drop {g g' : Nat → Option AObj} (h : SR K β own g w) (hg : ∀ i, g' i = g i ∨ g' i = none) : SR K β own g' w where
  obj i b hb := by
    obtain ⟨q1, q2, q3⟩ := h.obj i b hb
    refine ⟨q1, q2, fun o ho => q3 o ?_⟩
    rcases hg i with e | e
    · rw [← e]; exact ho
    · rw [e] at ho; cases ho
  arr i hi L hL cs mv ro hc := by
    refine h.arr i hi L hL cs mv ro ?_
    rcases hg i with e | e
    · rw [← e]; exact hc
    · rw [e] at hc; cases hc
  loc := h.loc
  blk := h.blk
  one := h.one
  small := h.small
  vir := h.vir
  ice := h.ice
theorem Ext.drop {s0 s s2 : St} (h : Ext β own s0 w β' own' s w') (hd : Drop s0.n s s2) : Ext β own s0 w β' own' s2 w' where
  le := h.le
  new i hi := by rw [hd.n]; exact h.new i hi
  nle := by rw [hd.n]; exact h.nle
  aframe i hi hn := by rw [hd.old i hi]; exact h.aframe i hi hn
  size := h.size
  cframe b hb ho := h.cframe b hb fun i hi => by rw [← hd.n]; exact ho i hi
  os := h.os
  tape := h.tape
  output := h.output
  keep i hi := h.keep i (by rw [← hd.n]; exact hi)
  virn := h.virn
  drawn := h.drawn
theorem Ext.at {s0 s1 s : St} (h : Ext β own s0 w β' own' s w') (hn : s1.n = s0.n) (hg : ∀ i, s1.get i = s0.get i) : Ext β own s1 w β' own' s w' where
  le := h.le
  new i hi := by rw [hn]; exact h.new i hi
  nle := by rw [hn]; exact h.nle
  aframe i hi hx := by rw [hg]; exact h.aframe i (by rw [← hn]; exact hi) hx
  size := h.size
  cframe := h.cframe
  os := h.os
  tape := h.tape
  output := h.output
  keep := h.keep
  virn i hi := by rw [hn]; exact h.virn i hi
  drawn := h.drawn
end
section
variable {P : Program} {C : Cfg} {G : Nat}
variable (C)
variable {C}
end
end Go.Ai
/-
  Package-level variables that hold errors: rows of one cell, of which the dynamic type is known; contracts of functions that read no variables, among code that does.
-/
namespace Go.Ai
open Go.ChangeShapes Go.WideShapes Go.RowKit
section
variable {P : Program} {w : World}
end

section
variable {P : Program} {C : Cfg} {G : Nat}
end
section
variable {P : Program} {G k N : Nat} {ρ : Nat → Nat} {s s0 : St} {K K' : Code → Prop} {β : Bij} {own : Nat → Option Nat} {w : World}
end
end Go.Ai
namespace Go.Ai
end Go.Ai
namespace Go.Ai
end Go.Ai
/-
  Calls that the kernel runs in the midst of a proof; contracts for one memory, or behind the variables.
-/
namespace Go.Ai
section
variable {P : Program} {G : Nat}
/-- a call that leaves what was there as it was -/
theorem scf_of_sc {k N : Nat} {f : FuncId} {args : List Value} {s s0 : St} {v : Value} (hk : s0.n = k) (hn : k ≤ s.n) (hw0 : s0.WF) (hget : ∀ i, i < k → s.get i = s0.get i)
    (hself : ∀ i, i < k → ORel (idR k) (s0.get i) (s0.get i)) (hargs : Subs (idR k) args args) (hv : Sub (idR k) v v) (h : SC P G f args s0 fun v0 s' => v0 = v ∧ s'.n ≤ N ∧ ∀ i, i < k → s'.get i = s0.get i) (hGk : gl G ≤ k) : SCF P G f args s fun v1 s1 => v1 = v ∧ s1 = s := by
  intro hsw
  have hR : ∀ i sp j, idR k i sp j → j < k ∧ j = i := by rintro i sp j ⟨h, rfl⟩; exact ⟨h, rfl⟩
  refine sc_frame (fun _ _ => False) (G := G) (k := k) (ρ := fun i => i) (s := s) (s0 := s0) (fit_id hk hn hw0 hGk hget hself) N (fun _ _ _ _ _ h => h.elim) (hargs.mono hR) h ?_ hsw
  rintro _ v0 s0' ⟨rfl, h1, h2⟩ hw0' hg
  refine ⟨h1, _, v0, s, ⟨rfl, rfl⟩, hv.mono ?_, back_id hn hsw hget hself h2, fun i hi => .inr fun _ => rfl⟩
  rintro i sp j ⟨h, rfl⟩
  exact .inl (if_pos h)
/-- a contract for what begins with one memory -/
def Con.exact {k N : Nat} (f : FuncId) (args : List Value) (s0 : St) (v : Value) (hk : s0.n = k) (hw0 : s0.WF) (hself : ∀ i, i < k → ORel (idR k) (s0.get i) (s0.get i)) (hargs : Subs (idR k) args args) (hv : Sub (idR k) v v)
    (h : SC P G f args s0 fun v0 s' => v0 = v ∧ s'.n ≤ N ∧ ∀ i, i < k → s'.get i = s0.get i) (hGk : gl G ≤ k) : Con P G where
  f := f
  rel a s u s' := a = args ∧ u = v ∧ s' = s ∧ k ≤ s.n ∧ ∀ i, i < k → s.get i = s0.get i
  ok := by
    rintro a s u s' ⟨rfl, rfl, rfl, hn, hget⟩
    exact scf_of_sc hk hn hw0 hget hself hargs hv h hGk
  grow := by
    rintro a s u s' ⟨_, _, rfl, _⟩ hw
    exact ⟨hw, .refl _⟩
  det := by
    rintro a s u s' v1 s1 ⟨rfl, rfl, rfl, _⟩ ⟨_, rfl, rfl, _⟩
    exact ⟨rfl, rfl⟩
end
end Go.Ai