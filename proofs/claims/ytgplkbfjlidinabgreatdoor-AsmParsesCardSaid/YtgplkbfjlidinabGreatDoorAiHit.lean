/- The interpreter: what holds of it. -/
import Derived.Test.YtgplkbfjlidinabGreatDoorAiLay
import Derived.Test.YtgplkbfjlidinabGreatDoorAiCon
import Derived.LaidLaws
import Derived.Test.YtgplkbfjlidinabGreatDoorKit
set_option linter.unusedVariables false
set_option linter.unusedSimpArgs false
set_option linter.unnecessarySimpa false
/-
  Closed runs in parts: calls whose answers are known, and memory without what nobody can reach any more.
-/
namespace Go.Ai
structure Drop (k : Nat) (s s2 : St) : Prop where
 n : s2.n = s.n
 old : ∀ i, i < k → s2.get i = s.get i
 new : ∀ i, s2.get i = s.get i ∨ s2.get i = none
theorem Drop.wf {k : Nat} {s s2 : St} (h : Drop k s s2) (hw : s.WF) : s2.WF := fun i hi => by
 rcases h.new i with e | e
 ·rw [e]; exact hw i (by have := h.n; omega)
 ·exact e
theorem Drop.grow {s0 s s2 : St} (h : Drop s0.n s s2) (hw : s0.WF) (g : Grow s0 s) : Grow s0 s2 := by
 refine ⟨by rw [h.n]; exact g.n, fun l hl => ?_⟩;have : l < s0.n := by
  cases e : s0.get l with
  | none => rw [e] at hl; cases hl
  | some o => exact hw.lt e
 rw [h.old l this];exact g.loop l hl
section
variable {K : Code → Prop} {β β' : Bij} {own own' : Nat → Option Nat} {w w' : World}
theorem SR.drop {g g' : Nat → Option AObj} (h : SR K β own g w) (hg : ∀ i, g' i = g i ∨ g' i = none) : SR K β own g' w where
 obj i b hb := by
  obtain ⟨q1, q2, q3⟩ := h.obj i b hb;refine ⟨q1, q2, fun o ho => q3 o ?_⟩;rcases hg i with e | e
  ·rw [← e]; exact ho
  ·rw [e] at ho; cases ho
 arr i hi L hL cs mv ro hc := by
  refine h.arr i hi L hL cs mv ro ?_;rcases hg i with e | e
  ·rw [← e]; exact hc
  ·rw [e] at hc; cases hc
 loc := h.loc
 blk := h.blk
 one := h.one
 small := h.small
 vir := h.vir
 ice := h.ice
theorem Ext.drop {s0 s s2 : St} (h : Ext β own s0 w β' own' s w') (hd : Drop s0.n s s2) : Ext β own s0 w β' own' s2 w' where
 le := h.le
 new i hi := by rw [hd.n]; exact h.new i hi
 nle := by rw [hd.n]; exact h.nle
 aframe i hi hn := by rw [hd.old i hi]; exact h.aframe i hi hn
 size := h.size
 cframe b hb ho := h.cframe b hb fun i hi => by rw [← hd.n]; exact ho i hi
 os := h.os
 tape := h.tape
 output := h.output
 keep i hi := h.keep i (by rw [← hd.n]; exact hi)
 virn := h.virn
 drawn := h.drawn
theorem Ext.at {s0 s1 s : St} (h : Ext β own s0 w β' own' s w') (hn : s1.n = s0.n) (hg : ∀ i, s1.get i = s0.get i) : Ext β own s1 w β' own' s w' where
 le := h.le
 new i hi := by rw [hn]; exact h.new i hi
 nle := by rw [hn]; exact h.nle
 aframe i hi hx := by rw [hg]; exact h.aframe i (by rw [← hn]; exact hi) hx
 size := h.size
 cframe := h.cframe
 os := h.os
 tape := h.tape
 output := h.output
 keep := h.keep
 virn i hi := by rw [hn]; exact h.virn i hi
 drawn := h.drawn
end
section
variable {P : Program} {C : Cfg} {G : Nat}
variable (C)
variable {C}
end
end Go.Ai
/-
  Package-level variables that hold errors: rows of one cell, of which the dynamic type is known; contracts of functions that read no variables, among code that does.
-/
namespace Go.Ai
open Go.ChangeShapes Go.WideShapes Go.RowKit
section
variable {P : Program} {w : World}
def ErrAt (w : World) (T : TypeId) (g : Nat) : Prop := ∃ c ty fr v, w.heap[g]? = some (.cells c ty fr) ∧ c[0]? = some (.iface T v) ∧ refy v = true
theorem sent_at {n nm : String} {g t U e : Nat} {ms : Array (String × TypeId)} {cs : Array Value} {fuel : Nat} {d : DataW Unit} {p q : List MemPlace} (hu : ∀ u, P.typeName? 3 u = some nm → u = U) (hU : P.underlying U = some (.pointer e)) (ht : P.underlying t = some (.interface ms))
    (hg : P.globalNamed n = some g) (hv : w.var? P n = some cs) (hd : DataW.trod (fun _ => ()) P w 0 (fun _ => true) false fuel t cs.toList = some (.iface nm d, p))
    (hok : ∀ b off, MemPlace.cell b off ∈ MemPlace.row ⟨g, 0, none⟩ cs.size ++ q → ∀ u v, w.cell? ⟨b, off, none⟩ = some (.iface u v) → Value.okWide P w .any 0 u v) : ErrAt w U g := by
  have hh : ∃ ty fr, w.heap[g]? = some (.cells cs ty fr) := by
    unfold World.var? at hv;rw [hg] at hv;simp only [Option.bind_some] at hv;split at hv
    · rename_i h
      cases hv;exact ⟨_, _, h⟩
    · cases hv
  obtain ⟨ty, fr, hh⟩ := hh;have hcs : ∃ u v, cs.toList = [.iface u v] ∧ P.typeName? 3 u = some nm := by
    cases fuel with
    | zero => unfold DataW.trod at hd; cases hd
    | succ m =>
      unfold DataW.trod at hd;rw [ht] at hd;generalize cs.toList = l at hd
      match l, hd with
      | [.nilIface], hd => simp at hd
      | [.iface u v], hd =>
        refine ⟨u, v, rfl, ?_⟩;simp only at hd;cases hn : P.typeName? 3 u with
        | none => rw [hn] at hd; cases hd
        | some name =>
          rw [hn] at hd;simp only [Option.map_eq_some_iff] at hd;obtain ⟨x, _, hx⟩ := hd;simp only [Prod.mk.injEq, DataW.iface.injEq] at hx;rw [hx.1.1]
  obtain ⟨u, v, hcs, hn⟩ := hcs;obtain rfl := hu u hn;have h0 : cs[0]? = some (.iface u v) := by
    rw [← Array.getElem?_toList, hcs]; rfl
  have hsz : cs.size = 1 := by rw [← Array.length_toList, hcs]; rfl
  refine ⟨cs, ty, fr, v, hh, h0, ?_⟩;have hval := hok g 0 (List.mem_append_left _ (by rw [hsz]; simp [MemPlace.row])) u v (by unfold World.cell?; rw [hh]; simpa using h0);unfold Value.okWide at hval;rw [hU] at hval;simp only at hval;cases v <;> first
    | rfl
    | (unfold Cell.okWide Cell.ok at hval; rw [hU] at hval; exact hval.elim)
end
section
variable {P : Program} {C : Cfg} {G : Nat}
end
section
variable {P : Program} {G k N : Nat} {ρ : Nat → Nat} {s s0 : St} {K K' : Code → Prop} {β : Bij} {own : Nat → Option Nat} {w : World}
end
end Go.Ai
namespace Go.Ai
def maybeErr (P : Program) (u : TypeId) : Bool :=
  match P.info? u with
  | some i => match i.desc with
    | .named n _ => n == "*errors.errorString"
    | .pointer e => (match P.info? e with
      | some j => match j.desc with
        | .named n _ => n == "errors.errorString"
        | .bool | .int _ | .float _ | .string => j.str == "errors.errorString"
        | _ => false
      | none => false)
    | .bool | .int _ | .float _ | .string => i.str == "*errors.errorString"
    | _ => false
  | none => false
theorem star_cancel {a : String} (h : "*" ++ a = "*errors.errorString") : a = "errors.errorString" :=
 (String.append_right_inj "*").1 (h.trans (by decide +kernel : "*errors.errorString" = "*" ++ "errors.errorString"))
theorem star_head {a : String} (h : "*" ++ a = "errors.errorString") : False := by
 have h := congrArg (fun s => s.toList.head?) h;revert h
 rw [String.toList_append];simp
theorem errName {P : Program} {u : TypeId} (h : P.typeName? 3 u = some "*errors.errorString") : maybeErr P u = true := by
  unfold Program.typeName? at h;unfold maybeErr;split at h
  · rename_i i hi
    rw [hi];simp only;split at h
    · rename_i n t hd
      rw [hd];simp only;split at h
      · obtain rfl := Option.some.inj h; exact beq_self_eq_true _
      · cases h
    · rename_i e hd
      rw [hd];simp only;rw [Option.map_eq_some_iff] at h;obtain ⟨a, ha, h⟩ := h;obtain rfl := star_cancel h;unfold Program.typeName? at ha;split at ha
      · rename_i j hj
        rw [hj];simp only;split at ha
        · rename_i n t hd'
          rw [hd'];simp only;split at ha
          · obtain rfl := Option.some.inj ha; exact beq_self_eq_true _
          · cases ha
        · rw [Option.map_eq_some_iff] at ha
          obtain ⟨b, _, hb⟩ := ha;exact (star_head hb).elim
        all_goals first
          | (rename_i hd'
             rw [hd'];simp only;split at ha
             · cases ha
             · rw [Option.some.inj ha]; exact beq_self_eq_true _)
          | cases ha
      · cases ha
    all_goals first
      | (rename_i hd
         rw [hd];simp only;split at h
         · cases h
         · rw [Option.some.inj h]; exact beq_self_eq_true _)
      | cases h
  · cases h
def basicErr (P : Program) (u : TypeId) : Bool :=
  match P.info? u with
  | some i => match i.desc with
    | .bool | .int _ | .float _ | .string => i.str == "errors.errorString"
    | _ => false
  | none => false
theorem errNamed {P : Program} {u : TypeId} (h : P.typeName? 2 u = some "errors.errorString") : basicErr P u = true ∨ (match (P.info? u).map (·.desc) with | some (TypeDesc.named _ _) => true | _ => false) = true := by
  unfold Program.typeName? at h;unfold basicErr;split at h
  · rename_i i hi
    rw [hi];simp only [Option.map_some];split at h
    · rename_i n t hd
      rw [hd];exact .inr rfl
    · rw [Option.map_eq_some_iff] at h
      obtain ⟨b, _, hb⟩ := h;exact (star_head hb).elim
    all_goals first
      | (rename_i hd
         rw [hd];simp only;split at h
         · cases h
         · exact .inl (by rw [Option.some.inj h]; exact beq_self_eq_true _))
      | cases h
  · cases h
theorem errType {P : Program} {U : Nat} (h : ((List.range P.types.size).all fun u => !maybeErr P u || Nat.beq u U) = true) (h2 : ((List.range P.types.size).all fun u => !basicErr P u) = true) : ∀ u, P.typeName? 3 u = some "*errors.errorString" → u = U := by
 have star : "*" ++ "errors.errorString" = "*errors.errorString" := Zj
 intro u hu;refine typeName_ptr_named (nm := "errors.errorString") ?_ ?_ Zj u (by rw [star]; exact hu)
 ·rw [List.all_eq_true];intro x hx;rw [star];by_cases q : P.typeName? 3 x = some "*errors.errorString"
  ·have := List.all_eq_true.1 h x hx;rw [errName q] at this;rw [Nat.eq_of_beq_eq_true this];simp
  ·simp [q]
 ·rw [List.all_eq_true];intro x hx;by_cases q : P.typeName? 2 x = some "errors.errorString"
  ·rcases errNamed q with e | e
   ·have := List.all_eq_true.1 h2 x hx;rw [e] at this;cases this
   ·rw [Bool.or_eq_true];refine .inr ?_;revert e
    cases (P.info? x).map (·.desc) with
    | none => intro e; cases e
    | some d => cases d <;> intro e <;> first | rfl | cases e
  ·simp [q]
end Go.Ai
namespace Go.Ai
end Go.Ai
/-
  Calls that the kernel runs in the midst of a proof; contracts for one memory, or behind the variables.
-/
namespace Go.Ai
section
variable {P : Program} {G : Nat}
theorem scf_of_sc {k N : Nat} {f : FuncId} {args : List Value} {s s0 : St} {v : Value} (hk : s0.n = k) (hn : k ≤ s.n) (hw0 : s0.WF) (hget : ∀ i, i < k → s.get i = s0.get i)
  (hself : ∀ i, i < k → ORel (idR k) (s0.get i) (s0.get i)) (hargs : Subs (idR k) args args) (hv : Sub (idR k) v v) (h : SC P G f args s0 fun v0 s' => v0 = v ∧ s'.n ≤ N ∧ ∀ i, i < k → s'.get i = s0.get i) (hGk : gl G ≤ k) : SCF P G f args s fun v1 s1 => v1 = v ∧ s1 = s := by
 intro hsw;have hR : ∀ i sp j, idR k i sp j → j < k ∧ j = i := Z0z
 refine sc_frame (fun _ _ => False) (G := G) (k := k) (ρ := fun i => i) (s := s) (s0 := s0) (fit_id hk hn hw0 hGk hget hself) N (fun _ _ _ _ _ h => h.elim) (hargs.mono hR) h ?_ hsw;rintro _ v0 s0' ⟨rfl, h1, h2⟩ hw0' hg;refine ⟨h1, _, v0, s, ⟨rfl, rfl⟩, hv.mono ?_, back_id hn hsw hget hself h2, fun i hi => .inr fun _ => rfl⟩;rintro i sp j ⟨h, rfl⟩;exact .inl (if_pos h)
def Con.exact {k N : Nat} (f : FuncId) (args : List Value) (s0 : St) (v : Value) (hk : s0.n = k) (hw0 : s0.WF) (hself : ∀ i, i < k → ORel (idR k) (s0.get i) (s0.get i)) (hargs : Subs (idR k) args args) (hv : Sub (idR k) v v)
  (h : SC P G f args s0 fun v0 s' => v0 = v ∧ s'.n ≤ N ∧ ∀ i, i < k → s'.get i = s0.get i) (hGk : gl G ≤ k) : Con P G where
 f := f
 rel a s u s' := a = args ∧ u = v ∧ s' = s ∧ k ≤ s.n ∧ ∀ i, i < k → s.get i = s0.get i
 ok := by
  rintro a s u s' ⟨rfl, rfl, rfl, hn, hget⟩
  exact scf_of_sc hk hn hw0 hget hself hargs hv h hGk
 grow := by
  rintro a s u s' ⟨_, _, rfl, _⟩ hw
  exact ⟨hw, .refl _⟩
 det := by
  rintro a s u s' v1 s1 ⟨rfl, rfl, rfl, _⟩ ⟨_, rfl, rfl, _⟩
  exact ⟨rfl, rfl⟩
end
end Go.Ai