/-
  Memory: loads, stores, new things.
-/
import Derived.Test.YtfnbgfmmlgbfjaaGreatDoorAiOps4
import Derived.Laws.CopyRow
namespace Go.Ai

def St.WF (s : St) : Prop := ∀ i, s.n ≤ i → s.get i = none
theorem St.WF.lt {s : St} (h : s.WF) {i : Nat} {o : AObj} (hg : s.get i = some o) : i < s.n := by
  by_cases hi : i < s.n
  · exact hi
  · rw [h i (by omega)] at hg; cases hg
theorem St.WF.set {s : St} (h : s.WF) {i : Nat} {o o' : AObj} (hg : s.get i = some o) : (s.set i o').WF := by
  intro j hj
  rw [St.get_set]
  have := h.lt hg
  rw [St.n_set] at hj
  rw [if_neg (by omega)]
  exact h j hj
theorem St.WF.new {s : St} (h : s.WF) (o : AObj) : (s.new o).WF := by
  intro j hj
  rw [St.n_new] at hj
  rw [St.get_new, if_neg (by omega)]
  exact h j (by omega)

def Bij.setObj (β : Bij) (i b : Nat) : Bij := { β with obj := fun j => if j = i then some b else β.obj j }
def Bij.setArr (β : Bij) (i hi : Nat) (L : ArrLoc) : Bij := { β with arr := fun j k => if j = i ∧ k = hi then some L else β.arr j k }
def upd (own : Nat → Option Nat) (b : Nat) (i : Option Nat) : Nat → Option Nat := fun c => if c = b then i else own c

theorem Bij.le_setObj {β : Bij} {i b : Nat} (h : β.obj i = none) : β.le (β.setObj i b) := by
  refine ⟨fun j c hj => ?_, fun j k L hj => hj⟩
  simp only [Bij.setObj]
  rw [if_neg (by rintro rfl; rw [h] at hj; cases hj)]
  exact hj
theorem Bij.le_setArr {β : Bij} {i hi : Nat} {L : ArrLoc} (h : β.arr i hi = none ∨ β.arr i hi = some L) : β.le (β.setArr i hi L) := by
  refine ⟨fun j c hj => hj, fun j k M hj => ?_⟩
  simp only [Bij.setArr]
  split
  · rename_i e
    obtain ⟨rfl, rfl⟩ := e
    rcases h with h | h
    · rw [h] at hj; cases hj
    · rw [h] at hj; exact hj
  · exact hj

/-- some numbers change; all else is as it was -/
theorem change {K : Code → Prop} {β β' : Bij} {own own' : Nat → Option Nat} {s s' : St} {w w' : World} (h : SR K β own s.get w) (S : Nat → Prop)
    (hS : ∀ j, S j → j < s'.n ∧ (j < s.n → β.dom j)) (nle : s.n ≤ s'.n) (hle : β.le β')
    (hobj : ∀ j, ¬ S j → β'.obj j = β.obj j) (harr : ∀ j, ¬ S j → β'.arr j = β.arr j) (hg : ∀ j, ¬ S j → s'.get j = s.get j)
    (hsz : w.heap.size ≤ w'.heap.size) (hb : ∀ b, b < w.heap.size → (∀ j, own b = some j → ¬ S j) → own' b = own b ∧ w'.heap[b]? = w.heap[b]?)
    (o1 : ∀ j, S j → ∀ b, β'.obj j = some b → own' b = some j ∧ b < w'.heap.size ∧ ∀ o, s'.get j = some o → ObjR β' K o w'.heap[b]?)
    (o2 : ∀ j, S j → ∀ hi L, β'.arr j hi = some L → ∀ cs mv ro, s'.get j = some (.arr cs mv ro) → hi ≤ cs.length ∧ (mv ≤ hi → ArrR β' L cs hi ro w'.heap[L.block]? ∧ L.block < w'.heap.size ∧ own' L.block = (if ro then none else some j)))
    (o5 : ∀ j, S j → ∀ hi hi' L L', β'.arr j hi = some L → β'.arr j hi' = some L' → L.block = L'.block → L = L')
    (o6 : ∀ j, S j → ∀ hi L, β'.arr j hi = some L → L.block < w'.heap.size)
    (o3 : ∀ j, S j → (∃ b, β'.obj j = some b) → ¬ ∃ hi L, β'.arr j hi = some L)
    (o4 : ∀ b i, own' b = some i → b < w'.heap.size) (e1 : w'.os = w.os) (e2 : w'.tape = w.tape) (e3 : w'.output = w.output) :
    Ext β own s w β' own' s' w' ∧ SR K β' own' s'.get w' := by
  refine ⟨⟨hle, fun j hj => ?_, nle, fun j hj hd => ?_, hsz, fun b hbl ho => ?_, e1, e2, e3, fun j hj => have hs : ¬ S j := fun hs => Nat.not_lt_of_le hj (hS j hs).1; ⟨hobj j hs, harr j hs⟩⟩, ⟨fun j b hjb => ?_, fun j hi L hjL cs mv ro hc => ?_, fun j hi hi' L L' h1 h2 hbl => ?_, fun j hi L hjL => ?_, fun j hj => ?_, o4⟩⟩
  · by_cases hs : S j
    · by_cases hn : j < s.n
      · exact .inl ((hS j hs).2 hn)
      · exact .inr ⟨by omega, (hS j hs).1⟩
    · refine .inl ?_
      rcases hj with ⟨b, hb⟩ | ⟨hi, L, hL⟩
      · exact .inl ⟨b, by rw [← hobj j hs]; exact hb⟩
      · exact .inr ⟨hi, L, by rw [← harr j hs]; exact hL⟩
  · by_cases hs : S j
    · exact absurd ((hS j hs).2 hj) hd
    · exact hg j hs
  · exact hb b hbl fun j hj hs => by have := ho j hj; have := (hS j hs).1; omega
  · by_cases hs : S j
    · exact o1 j hs b hjb
    · rw [hobj j hs] at hjb
      obtain ⟨g1, g2, g3⟩ := h.obj j b hjb
      obtain ⟨g4, g5⟩ := hb b g2 fun i hi => by rw [g1] at hi; obtain rfl := Option.some.inj hi; exact hs
      refine ⟨g4.trans g1, Nat.lt_of_lt_of_le g2 hsz, fun o ho => ?_⟩
      rw [g5]
      exact (g3 o (by rw [← hg j hs]; exact ho)).mono hle
  · by_cases hs : S j
    · exact o2 j hs hi L hjL cs mv ro hc
    · rw [harr j hs] at hjL
      rw [hg j hs] at hc
      obtain ⟨g0, gv⟩ := h.arr j hi L hjL cs mv ro hc
      refine ⟨g0, fun hv => ?_⟩
      obtain ⟨g1, g2, g3⟩ := gv hv
      obtain ⟨g4, g5⟩ := hb L.block g2 fun i hi => by
        rw [g3] at hi
        split at hi
        · cases hi
        · obtain rfl := Option.some.inj hi; exact hs
      rw [g5]
      exact ⟨g1.mono hle, Nat.lt_of_lt_of_le g2 hsz, g4.trans g3⟩
  · by_cases hs : S j
    · exact o5 j hs hi hi' L L' h1 h2 hbl
    · rw [harr j hs] at h1 h2
      exact h.loc j hi hi' L L' h1 h2 hbl
  · by_cases hs : S j
    · exact o6 j hs hi L hjL
    · rw [harr j hs] at hjL
      exact Nat.lt_of_lt_of_le (h.blk j hi L hjL) hsz
  · by_cases hs : S j
    · exact o3 j hs hj
    · rw [hobj j hs] at hj
      rw [harr j hs]
      exact h.one j hj

section
variable {P : Program} {C : Cfg} {K : Code → Prop} (H : CfgOk P C K) {β : Bij} {own : Nat → Option Nat} {s : St} {w : World}

def SimV (P : Program) (K : Code → Prop) (β : Bij) (own : Nat → Option Nat) (s : St) (w : World) (m : Sem Value) (v : Value) (s' : St) : Prop :=
  ∃ β' own' w' v', m.run P w = .ok v' w' ∧ Ext β own s w β' own' s' w' ∧ SR K β' own' s'.get w' ∧ VR β' v v'
def SimU (P : Program) (K : Code → Prop) (β : Bij) (own : Nat → Option Nat) (s : St) (w : World) (m : Sem Unit) (s' : St) : Prop :=
  ∃ β' own' w', m.run P w = .ok () w' ∧ Ext β own s w β' own' s' w' ∧ SR K β' own' s'.get w'

theorem SimV.same (hs : SR K β own s.get w) {m : Sem Value} {v : Value} (h : ∃ v', m.run P w = .ok v' w ∧ VR β v v') : SimV P K β own s w m v s :=
  let ⟨v', h1, h2⟩ := h
  ⟨β, own, w, v', h1, .refl .., hs, h2⟩

theorem Free.obj {s s' : St} (h : Free β s s') (hn : s.n < s'.n) : β.obj s.n = none := by
  cases hb : β.obj s.n with
  | none => rfl
  | some b => rcases h s.n (.inl ⟨b, hb⟩) with h | h <;> omega
theorem Free.arr {s s' : St} (h : Free β s s') (hn : s.n < s'.n) (hi : Nat) : β.arr s.n hi = none := by
  cases hb : β.arr s.n hi with
  | none => rfl
  | some L => rcases h s.n (.inr ⟨hi, L, hb⟩) with h | h <;> omega

/-- a new thing that is no row -/
theorem new_obj {s' : St} (hs : SR K β own s.get w) (hf : Free β s s') (o : AObj) (O : Obj) (hn : s.n < s'.n) (ho : ObjR (β.setObj s.n w.heap.size) K o (some O)) :
    Ext β own s w (β.setObj s.n w.heap.size) (upd own w.heap.size (some s.n)) (s.new o) (w.alloc O) ∧ SR K (β.setObj s.n w.heap.size) (upd own w.heap.size (some s.n)) (s.new o).get (w.alloc O) := by
  have h1 := hf.obj hn
  have h2 := hf.arr hn
  refine change hs (fun j => j = s.n) ?_ (by rw [St.n_new]; omega) (Bij.le_setObj h1) ?_ ?_ ?_ (by simp) ?_ ?_ ?_ ?_ ?_ ?_ ?_ rfl rfl rfl
  · rintro j rfl; rw [St.n_new]; exact ⟨by omega, fun h => by omega⟩
  · intro j hj; simp [Bij.setObj, hj]
  · intro j hj; rfl
  · intro j hj; rw [St.get_new, if_neg hj]
  · intro b hb _
    refine ⟨by simp [upd]; omega, heap_alloc_old w O b hb⟩
  · rintro j rfl b hb
    simp [Bij.setObj] at hb
    subst hb
    refine ⟨by simp [upd], by simp, fun o' ho' => ?_⟩
    rw [St.get_new, if_pos rfl] at ho'
    obtain rfl := Option.some.inj ho'
    rw [heap_alloc_new]
    exact ho
  · rintro j rfl hi L hL
    exfalso
    have : β.arr s.n hi = some L := hL
    rw [h2] at this; cases this
  · rintro j rfl hi hi' L L' hL
    exfalso
    have : β.arr s.n hi = some L := hL
    rw [h2] at this; cases this
  · rintro j rfl hi L hL
    exfalso
    have : β.arr s.n hi = some L := hL
    rw [h2] at this; cases this
  · rintro j rfl _ ⟨hi, L, hL⟩
    have : β.arr s.n hi = some L := hL
    rw [h2] at this; cases this
  · intro b i hb
    simp only [upd] at hb
    split at hb
    · rename_i e; subst e; simp
    · have := hs.small b i hb; simp; omega

/-- a new row -/
theorem new_arr {s' : St} (hs : SR K β own s.get w) (hf : Free β s s') (cs : List Value) (c : Array Value) (t : TypeId) (fr : Nat × Nat) (hn : s.n < s'.n) (hfr : Loose fr c.size) (hle : cs.length ≤ c.size)
    (hc : ∀ (j : Nat) (v : Value), cs[j]? = some v → ∃ v', c[j]? = some v' ∧ VR β v v') :
    Ext β own s w (β.setArr s.n cs.length ⟨w.heap.size, 0, 0, c.size⟩) (upd own w.heap.size (some s.n)) (s.new (.arr cs 0 false)) (w.alloc (.cells c t fr)) ∧
      SR K (β.setArr s.n cs.length ⟨w.heap.size, 0, 0, c.size⟩) (upd own w.heap.size (some s.n)) (s.new (.arr cs 0 false)).get (w.alloc (.cells c t fr)) := by
  have h1 := hf.obj hn
  have h2 := hf.arr hn
  have hle' : β.le (β.setArr s.n cs.length ⟨w.heap.size, 0, 0, c.size⟩) := Bij.le_setArr (.inl (h2 _))
  refine change hs (fun j => j = s.n) ?_ (by rw [St.n_new]; omega) hle' ?_ ?_ ?_ (by simp) ?_ ?_ ?_ ?_ ?_ ?_ ?_ rfl rfl rfl
  · rintro j rfl; rw [St.n_new]; exact ⟨by omega, fun h => by omega⟩
  · intro j hj; rfl
  · intro j hj; funext k; simp [Bij.setArr, hj]
  · intro j hj; rw [St.get_new, if_neg hj]
  · intro b hb _
    exact ⟨by simp [upd]; omega, heap_alloc_old w _ b hb⟩
  · rintro j rfl b hb
    exfalso
    have : β.obj s.n = some b := hb
    rw [h1] at this; cases this
  · rintro j rfl hi L hL cs' mv ro hcs
    rw [St.get_new, if_pos rfl] at hcs
    obtain ⟨rfl, rfl, rfl⟩ := by simpa using hcs
    simp only [Bij.setArr] at hL
    split at hL
    · rename_i e
      obtain ⟨_, rfl⟩ := e
      obtain rfl := Option.some.inj hL
      refine ⟨Nat.le_refl _, fun _ => ⟨⟨Nat.zero_le _, by simpa using hle, c, t, fr, heap_alloc_new w _, fun _ => hfr, rfl, fun j hj0 hj => ?_⟩, by simp, by simp [upd]⟩⟩
      obtain ⟨v, hv⟩ : ∃ v, cs[j]? = some v := ⟨cs[j], by simp [hj]⟩
      obtain ⟨v', hv', hr⟩ := hc j v hv
      exact ⟨v, v', hv, by simpa using hv', hr.mono hle'⟩
    · rw [h2] at hL; cases hL
  · rintro j rfl hi hi' L L' hL hL' _
    simp only [Bij.setArr] at hL hL'
    split at hL
    · split at hL'
      · rw [hL] at hL'; exact Option.some.inj hL'
      · rw [h2] at hL'; cases hL'
    · rw [h2] at hL; cases hL
  · rintro j rfl hi L hL
    simp only [Bij.setArr] at hL
    split at hL
    · obtain rfl := Option.some.inj hL; simp
    · rw [h2] at hL; cases hL
  · rintro j rfl ⟨b, hb⟩
    exfalso
    have : β.obj s.n = some b := hb
    rw [h1] at this; cases this
  · intro b i hb
    simp only [upd] at hb
    split at hb
    · rename_i e; subst e; simp
    · have := hs.small b i hb; simp; omega

/-- a thing that is no row turns into another -/
theorem set_obj (hs : SR K β own s.get w) (hw : s.WF) {i b : Nat} {o o0 : AObj} {O : Obj} {w' : World} (hb : β.obj i = some b) (hi : s.get i = some o0) (hO : w'.heap[b]? = some O) (ho : ObjR β K o (some O))
    (hsz : w'.heap.size = w.heap.size) (hoth : ∀ c, c ≠ b → w'.heap[c]? = w.heap[c]?) (e1 : w'.os = w.os) (e2 : w'.tape = w.tape) (e3 : w'.output = w.output) :
    Ext β own s w β own (s.set i o) w' ∧ SR K β own (s.set i o).get w' := by
  have hlt := hw.lt hi
  refine change hs (fun j => j = i) ?_ (Nat.le_refl _) (Bij.le_refl β) (fun _ _ => rfl) (fun _ _ => rfl) ?_ (by omega) ?_ ?_ ?_ ?_ ?_ ?_ ?_ e1 e2 e3
  · rintro j rfl; exact ⟨hlt, fun _ => .inl ⟨b, hb⟩⟩
  · intro j hj; rw [St.get_set, if_neg hj]
  · intro c hc hno
    refine ⟨rfl, hoth c ?_⟩
    rintro rfl
    exact hno i (hs.obj i c hb).1 rfl
  · rintro j rfl c hc
    rw [hb] at hc
    obtain rfl := Option.some.inj hc
    obtain ⟨g1, g2, _⟩ := hs.obj j b hb
    refine ⟨g1, by omega, fun o' ho' => ?_⟩
    rw [St.get_set, if_pos rfl] at ho'
    obtain rfl := Option.some.inj ho'
    rw [hO]; exact ho
  · rintro j rfl hi L hL
    exact absurd ⟨hi, L, hL⟩ (hs.one j ⟨b, hb⟩)
  · rintro j rfl; exact hs.loc j
  · rintro j rfl hi L hL; have := hs.blk j hi L hL; omega
  · rintro j rfl h; exact hs.one j h
  · intro c j hc; have := hs.small c j hc; omega

theorem cellsAt_sim (hs : SR K β own s.get w) {a : Addr} {n : Nat} {cs : List Value} (h : s.cellsAt a n = some cs) {a' : Addr} (ha : VR β (.pointer (some a)) (.pointer (some a'))) :
    ∃ cs', VRs β cs cs' ∧ cs.length = n ∧ ∀ (j : Nat) (v : Value), cs'[j]? = some v → w.cell? (a'.add j) = some v := by
  unfold St.cellsAt at h
  split at h
  · rename_i l hg hsp
    split at h
    · rename_i hle
      obtain rfl := Option.some.inj h
      cases ha with
      | ptrArr => cases hsp
      | @ptrObj i o b hb =>
        obtain ⟨_, _, g3⟩ := hs.obj _ _ hb
        obtain ⟨c, t, e, hr⟩ := g3 _ hg
        simp only at hle
        refine ⟨(c.toList.drop o).take n, (hr.drop _).take _, by simp; omega, fun j v hj => ?_⟩
        rw [addr_add]
        rw [List.getElem?_take] at hj
        split at hj
        · rw [List.getElem?_drop] at hj
          simp only [World.cell?, e]
          simpa using hj
        · cases hj
    · cases h
  · rename_i l mv ro hi hg hsp
    split at h
    · rename_i hle
      obtain ⟨hm, hl, hle⟩ := hle
      obtain rfl := Option.some.inj h
      cases ha with
      | ptrObj hb => cases hsp
      | @ptrArr i o hi' L hL h1 =>
        obtain rfl := Option.some.inj hsp
        obtain ⟨⟨g1, g2, c, t, fr, e, _, hcs, g4⟩, _⟩ := (hs.arr _ _ _ hL _ _ _ hg).2 hm
        simp only at hle
        refine ⟨(c.toList.drop (L.base + (o - L.lo))).take n, ?_, by simp; omega, fun j v hj => ?_⟩
        · refine .of (by simp; omega) fun j v v' hv hv' => ?_
          rw [List.getElem?_take] at hv hv'
          split at hv
          · rename_i hjn
            rw [if_pos hjn] at hv'
            rw [List.getElem?_drop] at hv hv'
            obtain ⟨x, x', hx, hx', hr⟩ := g4 (o + j) (by omega) (by omega)
            rw [hx] at hv
            obtain rfl := Option.some.inj hv
            rw [show L.base + (o + j - L.lo) = L.base + (o - L.lo) + j from by omega] at hx'
            have : c.toList[L.base + (o - L.lo) + j]? = some x' := by simpa using hx'
            rw [this] at hv'
            obtain rfl := Option.some.inj hv'
            exact hr
          · cases hv
        · rw [addr_add]
          rw [List.getElem?_take] at hj
          split at hj
          · rw [List.getElem?_drop] at hj
            simp only [World.cell?, e]
            simpa using hj
          · cases hj
    · cases h
  · cases h

include H in
theorem load_sim (hs : SR K β own s.get w) {t : TypeId} {x x' v : Value} (hv : loadV C s t x = some v) (hx : VR β x x') : ∃ v', (Instr.loadAt t x').run P w = .ok v' w ∧ VR β v v' := by
  unfold loadV at hv
  split at hv
  · rename_i ty a hty
    obtain ⟨a', rfl, _⟩ := ptr_plus (n := 0) hx
    simp only [Instr.loadAt, Instr.sureAddr, loadVar, Sem.run_bind, Sem.run_pure, Result.andThen_ok, run_isAgg H hty]
    split at hv
    · rename_i hagg
      rw [Option.map_eq_some_iff] at hv
      obtain ⟨cs, hcs, rfl⟩ := hv
      obtain ⟨cs', hr, hl, hc⟩ := cellsAt_sim hs hcs hx
      have hl' : cs'.length = ty.size := hr.length.trans hl
      refine ⟨.agg cs'.toArray, ?_, .agg (by simpa using hr)⟩
      rw [if_pos hagg]
      simp only [Sem.run_bind, run_size H hty, Result.andThen_ok]
      have := run_loadCells_list (P := P) w a' cs' hc
      rw [hl'] at this
      rw [this]; rfl
    · rename_i hagg
      split at hv
      · rename_i u hcs
        obtain rfl := Option.some.inj hv
        obtain ⟨cs', hr, hl, hc⟩ := cellsAt_sim hs hcs hx
        obtain ⟨v', l', rfl, hvr, ht⟩ := hr.cons_inv
        obtain rfl := ht.nil_inv
        have h0 := hc 0 v' rfl
        have h0 : w.cell? a' = some v' := by simpa [Addr.add] using h0
        refine ⟨v', ?_, hvr⟩
        rw [if_neg hagg, run_load, h0]
      · cases hv
  · cases hv

end
end Go.Ai
