/-
  What a run does to memory, seen from afar: numbers are only added, a loop stays a loop.
-/
import Derived.Test.YtfnbgfmmlgbfjaaGreatDoorAiMach
namespace Go.Ai

def isLoop : Option AObj → Prop
  | some (.loop _) => True
  | _ => False

structure Grow (s s' : St) : Prop where
  n : s.n ≤ s'.n
  loop : ∀ l, isLoop (s.get l) → isLoop (s'.get l)

theorem Grow.refl (s : St) : Grow s s := ⟨Nat.le_refl _, fun _ h => h⟩
theorem Grow.trans {s s' s'' : St} (h : Grow s s') (h' : Grow s' s'') : Grow s s'' := ⟨Nat.le_trans h.n h'.n, fun l x => h'.loop l (h.loop l x)⟩
theorem Grow.set {s : St} {i : Nat} {o : AObj} (h : ¬ isLoop (s.get i) ∨ isLoop (some o)) : Grow s (s.set i o) := by
  refine ⟨Nat.le_refl _, fun l hl => ?_⟩
  rw [St.get_set]
  split
  · rename_i e; subst e
    rcases h with h | h
    · exact absurd hl h
    · exact h
  · exact hl
theorem Grow.new (s : St) (hw : s.WF) (o : AObj) : Grow s (s.new o) := by
  refine ⟨by rw [St.n_new]; omega, fun l hl => ?_⟩
  rw [St.get_new]
  split
  · rename_i e; subst e; rw [hw s.n (Nat.le_refl _)] at hl; exact hl.elim
  · exact hl

theorem Grow.putCells {s s' : St} {a : Addr} {vs : List Value} (h : s.putCells a vs = some s') (hw : s.WF) : Grow s s' ∧ s'.WF := by
  unfold St.putCells at h
  split at h
  · rename_i hg _
    split at h
    · obtain rfl := Option.some.inj h
      exact ⟨.set (.inl (by rw [hg]; exact id)), hw.set hg⟩
    · cases h
  · rename_i hg _
    split at h
    · obtain rfl := Option.some.inj h
      exact ⟨.set (.inl (by rw [hg]; exact id)), hw.set hg⟩
    · cases h
  · cases h

section
variable {C : Cfg}
theorem Grow.store {s s' : St} {t : TypeId} {x v : Value} (h : storeV C s t x v = some s') (hw : s.WF) : Grow s s' ∧ s'.WF := by
  unfold storeV at h
  split at h
  · split at h
    · exact Grow.putCells h hw
    · cases h
  · cases h
theorem Grow.update {s s' : St} {t : TypeId} {m k v : Value} (h : updateV C s t m k v = some s') (hw : s.WF) : Grow s s' ∧ s'.WF := by
  unfold updateV at h
  split at h
  · split at h
    · rename_i hg
      split at h
      · split at h
        · obtain rfl := Option.some.inj h; exact ⟨.set (.inl (by rw [hg]; exact id)), hw.set hg⟩
        · obtain rfl := Option.some.inj h; exact ⟨.set (.inl (by rw [hg]; exact id)), hw.set hg⟩
        · cases h
      · cases h
    · cases h
  · cases h
theorem Grow.mapEntry {s s' : St} {t : TypeId} {m k v : Value} (h : mapEntryV C s t m k = some (v, s')) (hw : s.WF) : Grow s s' ∧ s'.WF := by
  unfold mapEntryV at h
  split at h
  · split at h
    · rename_i hg
      split at h
      · split at h
        · obtain ⟨_, rfl⟩ := Prod.mk.inj (Option.some.inj h); exact ⟨.set (.inl (by rw [hg]; exact id)), hw.set hg⟩
        · split at h
          · obtain ⟨_, rfl⟩ := Prod.mk.inj (Option.some.inj h); exact ⟨.set (.inl (by rw [hg]; exact id)), hw.set hg⟩
          · cases h
        · cases h
      · cases h
    · cases h
  · cases h
theorem Grow.entryStore {s s' : St} {m k v : Value} (h : entryStoreV s m k v = some s') (hw : s.WF) : Grow s s' ∧ s'.WF := by
  unfold entryStoreV at h
  split at h
  · split at h
    · rename_i hg
      split at h
      · obtain rfl := Option.some.inj h; exact ⟨.set (.inl (by rw [hg]; exact id)), hw.set hg⟩
      · cases h
    · cases h
  · cases h
theorem Grow.delete {s s' : St} {t : TypeId} {m k : Value} (h : deleteV C s t m k = some s') (hw : s.WF) : Grow s s' ∧ s'.WF := by
  unfold deleteV at h
  split at h
  · split at h
    · obtain rfl := Option.some.inj h; exact ⟨.refl _, hw⟩
    · cases h
  · split at h
    · rename_i hg
      split at h
      · split at h
        · obtain rfl := Option.some.inj h; exact ⟨.set (.inl (by rw [hg]; exact id)), hw.set hg⟩
        · obtain rfl := Option.some.inj h; exact ⟨.refl _, hw⟩
        · cases h
      · cases h
    · cases h
  · cases h
theorem Grow.range {s s' : St} {t : TypeId} {x v : Value} (h : rangeV C s t x = some (v, s')) (hw : s.WF) : Grow s s' ∧ s'.WF := by
  unfold rangeV at h
  split at h
  · obtain ⟨_, rfl⟩ := Prod.mk.inj (Option.some.inj h); exact ⟨.new s hw _, hw.new _⟩
  · obtain ⟨_, rfl⟩ := Prod.mk.inj (Option.some.inj h); exact ⟨.new s hw _, hw.new _⟩
  · split at h
    · obtain ⟨_, rfl⟩ := Prod.mk.inj (Option.some.inj h); exact ⟨.new s hw _, hw.new _⟩
    · cases h
  · cases h
theorem Grow.makeSlice {s s' : St} {t : TypeId} {x y v : Value} (h : makeSliceV C s t x y = some (v, s')) (hw : s.WF) : Grow s s' ∧ s'.WF := by
  unfold makeSliceV at h
  split at h
  · split at h
    · split at h
      · obtain ⟨_, rfl⟩ := Prod.mk.inj (Option.some.inj h); exact ⟨.new s hw _, hw.new _⟩
      · cases h
    · cases h
  · cases h
theorem Grow.buildSlice {s s' : St} {t : TypeId} {n : Nat} {ps : List (Nat × Value)} {v : Value} (h : buildSliceV C s t n ps = some (v, s')) (hw : s.WF) : Grow s s' ∧ s'.WF := by
  unfold buildSliceV at h
  split at h
  · split at h
    · split at h
      · rw [Option.map_eq_some_iff] at h
        obtain ⟨_, _, e⟩ := h
        obtain ⟨_, rfl⟩ := Prod.mk.inj e; exact ⟨.new s hw _, hw.new _⟩
      · cases h
    · cases h
  · cases h
theorem Grow.append {s s' : St} {t : TypeId} {x y v : Value} (h : appendV C s t x y = some (v, s')) (hw : s.WF) : Grow s s' ∧ s'.WF := by
  unfold appendV at h
  split at h
  · split at h
    · split at h
      · split at h
        · cases h
        · split at h
          · cases h
          · split at h
            · split at h
              · obtain ⟨_, rfl⟩ := Prod.mk.inj (Option.some.inj h); exact ⟨.refl _, hw⟩
              · split at h
                · obtain ⟨_, rfl⟩ := Prod.mk.inj (Option.some.inj h); exact ⟨.new s hw _, hw.new _⟩
                · cases h
            · split at h
              · split at h
                · obtain ⟨_, rfl⟩ := Prod.mk.inj (Option.some.inj h); exact ⟨.refl _, hw⟩
                · split at h
                  · split at h
                    · rename_i hg _
                      split at h
                      · split at h
                        · obtain ⟨_, rfl⟩ := Prod.mk.inj (Option.some.inj h); exact ⟨.set (.inl (by rw [hg]; exact id)), hw.set hg⟩
                        · obtain ⟨_, rfl⟩ := Prod.mk.inj (Option.some.inj h)
                          exact ⟨(Grow.set (.inl (by rw [hg]; exact id))).trans (.new _ (hw.set hg) _), (hw.set hg).new _⟩
                      · cases h
                    · cases h
                  · cases h
              · cases h
            · cases h
      · cases h
    · cases h
  · cases h
theorem Grow.copy {s s' : St} {t : TypeId} {x y v : Value} (h : copyV C s t x y = some (v, s')) (hw : s.WF) : Grow s s' ∧ s'.WF := by
  unfold copyV at h
  split at h
  · split at h
    · dsimp only at h
      split at h
      · obtain ⟨_, rfl⟩ := Prod.mk.inj (Option.some.inj h); exact ⟨.refl _, hw⟩
      · split at h
        · split at h
          · split at h
            · rw [Option.map_eq_some_iff] at h
              obtain ⟨_, hp, e⟩ := h
              obtain ⟨_, rfl⟩ := Prod.mk.inj e; exact Grow.putCells hp hw
            · cases h
          · cases h
        · cases h
    · cases h
  · cases h
theorem Grow.conv {s s' : St} {a b : TypeId} {x v : Value} (h : convS C s a b x = some (v, s')) (hw : s.WF) : Grow s s' ∧ s'.WF := by
  unfold convS at h
  split at h
  · split at h
    · obtain ⟨_, rfl⟩ := Prod.mk.inj (Option.some.inj h); exact ⟨.new s hw _, hw.new _⟩
    · cases h
  · split at h
    · obtain ⟨_, rfl⟩ := Prod.mk.inj (Option.some.inj h); exact ⟨.refl _, hw⟩
    · split at h
      · obtain ⟨_, rfl⟩ := Prod.mk.inj (Option.some.inj h); exact ⟨.refl _, hw⟩
      split at h
      · split at h
        · rw [Option.map_eq_some_iff] at h
          obtain ⟨_, _, e⟩ := h
          obtain ⟨_, rfl⟩ := Prod.mk.inj e; exact ⟨.refl _, hw⟩
        · cases h
      · cases h
    · cases h
  · split at h
    · split at h
      · split at h
        · obtain ⟨_, rfl⟩ := Prod.mk.inj (Option.some.inj h); exact ⟨.refl _, hw⟩
        · cases h
      · cases h
    · cases h
  · rw [Option.map_eq_some_iff] at h
    obtain ⟨_, _, e⟩ := h
    obtain ⟨_, rfl⟩ := Prod.mk.inj e; exact ⟨.refl _, hw⟩
theorem Grow.builtin {s s' : St} {b : Builtin} {ts : Array TypeId} {args : List Value} {v : Value} (h : builtinV C s b ts args = some (v, s')) (hw : s.WF) : Grow s s' ∧ s'.WF := by
  have pure_ : ∀ {o : Option Value}, (o.map fun v => (v, s)) = some (v, s') → Grow s s' ∧ s'.WF := by
    intro o h
    rw [Option.map_eq_some_iff] at h
    obtain ⟨_, _, e⟩ := h
    obtain ⟨_, rfl⟩ := Prod.mk.inj e; exact ⟨.refl _, hw⟩
  unfold builtinV at h
  split at h
  · exact pure_ h
  · split at h
    · split at h
      · cases h
      · exact Grow.append h hw
      · cases h
    · cases h
  · exact Grow.copy h hw
  · rw [Option.map_eq_some_iff] at h
    obtain ⟨_, hd, e⟩ := h
    obtain ⟨_, rfl⟩ := Prod.mk.inj e; exact Grow.delete hd hw
  · exact pure_ h
  · exact pure_ h
  · cases h

theorem Grow.op {s s' : St} {ρ : Operand → Value} {o : Op} {v : Value} (h : evalOp C ρ s o = some (v, s')) (hw : s.WF) : Grow s s' ∧ s'.WF := by
  have pure_ : ∀ {o : Option Value}, (o.map fun v => (v, s)) = some (v, s') → Grow s s' ∧ s'.WF := by
    intro o h
    rw [Option.map_eq_some_iff] at h
    obtain ⟨_, _, e⟩ := h
    obtain ⟨_, rfl⟩ := Prod.mk.inj e; exact ⟨.refl _, hw⟩
  have refl_ : ∀ {x : Value}, some (x, s) = some (v, s') → Grow s s' ∧ s'.WF := by
    intro x h
    obtain ⟨_, rfl⟩ := Prod.mk.inj (Option.some.inj h); exact ⟨.refl _, hw⟩
  have new_ : ∀ {x : Value} {o : AObj}, some (x, s.new o) = some (v, s') → Grow s s' ∧ s'.WF := by
    intro x o h
    obtain ⟨_, rfl⟩ := Prod.mk.inj (Option.some.inj h); exact ⟨.new s hw _, hw.new _⟩
  have unit_ : ∀ {o : Option St}, (o.map fun s' => (undef, s')) = some (v, s') → (∀ q, o = some q → Grow s q ∧ q.WF) → Grow s s' ∧ s'.WF := by
    intro o h hq
    rw [Option.map_eq_some_iff] at h
    obtain ⟨q, hq', e⟩ := h
    obtain ⟨_, rfl⟩ := Prod.mk.inj e; exact hq _ hq'
  unfold evalOp at h
  split at h
  · exact refl_ h
  · exact refl_ h
  · split at h
    · exact refl_ h
    · cases h
  · split at h
    · exact new_ h
    · cases h
  · exact new_ h
  · exact pure_ h
  · exact Grow.buildSlice h hw
  · exact pure_ h
  · exact unit_ h fun q hq => Grow.store hq hw
  · split at h <;> first | exact refl_ h | cases h
  · exact pure_ h
  · exact pure_ h
  · exact Grow.conv h hw
  · split at h <;> first | exact refl_ h | cases h
  · split at h <;> first | exact refl_ h | cases h
  · split at h
    · exact new_ h
    · split at h <;> first | exact new_ h | cases h
    · cases h
  · exact Grow.makeSlice h hw
  · exact pure_ h
  · exact pure_ h
  · exact pure_ h
  · exact pure_ h
  · exact pure_ h
  · exact pure_ h
  · exact unit_ h fun q hq => Grow.update hq hw
  · exact unit_ h fun q hq => Grow.update hq hw
  · exact Grow.mapEntry h hw
  · exact unit_ h fun q hq => Grow.entryStore hq hw
  · exact Grow.range h hw
  · exact pure_ h
  · exact pure_ h
  · split at h
    · exact pure_ h
    · cases h
  · exact Grow.builtin h hw
  · cases h

theorem Grow.next {s s' : St} {it : Value} {isS : Bool} {l : List (Value × St)} {v : Value} (h : nextV s it isS = some l) (hm : (v, s') ∈ l) (hw : s.WF) : Grow s s' ∧ s'.WF := by
  unfold nextV at h
  split at h
  · split at h
    · rename_i hg
      split at h
      · obtain rfl := Option.some.inj h
        simp at hm
        obtain ⟨_, rfl⟩ := hm
        exact ⟨.set (.inl (by rw [hg]; exact id)), hw.set hg⟩
      · obtain rfl := Option.some.inj h
        simp at hm
        obtain ⟨_, rfl⟩ := hm
        exact ⟨.refl _, hw⟩
    · obtain rfl := Option.some.inj h
      simp at hm
      obtain ⟨_, rfl⟩ := hm
      exact ⟨.refl _, hw⟩
    · rename_i hg
      split at h
      · split at h
        · cases h
        · obtain rfl := Option.some.inj h
          rw [List.mem_append] at hm
          rcases hm with hm | hm
          · split at hm
            · simp at hm
              obtain ⟨_, rfl⟩ := hm
              exact ⟨.refl _, hw⟩
            · cases hm
          · rw [List.mem_map] at hm
            obtain ⟨e, _, he⟩ := hm
            obtain ⟨_, rfl⟩ := Prod.mk.inj he
            exact ⟨.set (.inl (by rw [hg]; exact id)), hw.set hg⟩
      · cases h
    · cases h
  · cases h

theorem has_ofList {α : Type} {l : List α} {a : α} (h : (M.ofList l).Has a) : a ∈ l := by
  unfold M.ofList at h
  split at h
  · cases h
  · cases h; simp
  · cases h with
    | ask hi h =>
      dsimp only at h
      split at h
      · rename_i x hx
        cases h
        exact List.mem_of_getElem? hx
      · cases h
theorem has_ofOption {α : Type} {o : Option α} {a : α} (h : (M.ofOption o).Has a) : o = some a := by
  cases o with
  | none => cases h
  | some x => cases h; rfl
theorem has_bind {α β : Type} {f : α → M β} {b : β} {m : M α} (h : (m.bind f).Has b) : ∃ a, m.Has a ∧ (f a).Has b := by
  induction m with
  | ret a => exact ⟨a, .ret a, h⟩
  | fail => cases h
  | ask n k ih =>
    have h' : (M.ask n fun i => (k i).bind f).Has b := h
    generalize hq : (M.ask n fun i => (k i).bind f) = q at h'
    cases h' with
    | ret a => cases hq
    | ask hi hx =>
      cases hq
      obtain ⟨a, h1, h2⟩ := ih _ hx
      exact ⟨a, .ask hi h1, h2⟩

def RecGrow (rc : Rec) : Prop := ∀ t s, s.WF → ∀ x, (rc t s).Has x → Grow s x.2 ∧ x.2.WF

theorem grow_oneOp {rc : Rec} (hr : RecGrow rc) {e : Env} {s : St} {o : Op} (hw : s.WF) {x : Value × St} (h : (oneOp C rc e s o).Has x) : Grow s x.2 ∧ x.2.WF := by
  unfold oneOp at h
  split at h
  · exact Grow.builtin (has_ofOption h) hw
  · split at h
    · obtain ⟨a, h1, h2⟩ := has_bind h
      have := hr _ _ hw _ h1
      unfold valOnly at h2
      split at h2
      · cases h2; exact this
      · cases h2
    · cases h
  · split at h
    · rename_i l hl
      exact Grow.next hl (has_ofList h) hw
    · cases h
  · exact Grow.op (has_ofOption h) hw

theorem grow_execOps {rc : Rec} (hr : RecGrow rc) {ops : Array Oper} : ∀ (l : List Oper) (e : Env) (s : St), s.WF → ∀ x, (execOps C rc ops l e s).Has x → Grow s x.2 ∧ x.2.WF
  | [], e, s, hw, x, h => by cases h; exact ⟨.refl _, hw⟩
  | o :: r, e, s, hw, x, h => by
    unfold execOps at h
    split at h
    · obtain ⟨a, h1, h2⟩ := has_bind h
      have g1 := grow_oneOp hr hw h1
      have g2 := grow_execOps hr r _ _ g1.2 x h2
      exact ⟨g1.1.trans g2.1, g2.2⟩
    · exact grow_execOps hr r _ _ hw x h

theorem grow_execDraw {rc : Rec} (hr : RecGrow rc) {ops : Array Oper} {ms : Array Nat} : ∀ (l : List Oper) (i : Nat) (L : Log) (e : Env) (s : St), s.WF → ∀ x, (execDraw C rc ops ms i l L e s).Has x → Grow s x.2 ∧ x.2.WF
  | [], i, L, e, s, hw, x, h => by cases h; exact ⟨.refl _, hw⟩
  | o :: r, i, L, e, s, hw, x, h => by
    unfold execDraw at h
    split at h
    · split at h
      · rename_i v s' hv
        have g1 := grow_oneOp (C := C) hr hw (x := (v, s')) (by rw [hv]; exact .ret _)
        have fin : ∀ L' e', (execDraw C rc ops ms (i + 1) r L' e' s').Has x → Grow s x.2 ∧ x.2.WF := fun L' e' hx =>
          let g2 := grow_execDraw hr r _ _ _ _ g1.2 x hx
          ⟨g1.1.trans g2.1, g2.2⟩
        split at h
        · exact fin _ _ h
        · exact fin _ _ h
        · split at h
          · exact fin _ _ h
          · cases h
        · split at h
          · exact fin _ _ h
          · cases h
      · cases h
    · exact grow_execDraw hr r _ _ _ _ hw x h

theorem grow_loopEnd {l : Nat} {e : Env} {y : Res × St} (hw : y.2.WF) {x : Out × Env × St} (h : (loopEnd l e y).Has x) : Grow y.2 x.2.2 ∧ x.2.2.WF := by
  unfold loopEnd at h
  split at h
  · split at h
    · rename_i lp hg
      split at h
      · cases h
      · split at h <;> first
          | (cases h; exact ⟨.set (.inr trivial), hw.set hg⟩)
          | cases h
    · cases h
  · cases h

theorem grow_execC {rc : Rec} (hr : RecGrow rc) {fid : FuncId} : ∀ (c : Code) (e : Env) (s : St), s.WF → ∀ x, (execC C rc fid c e s).Has x → Grow s x.2.2 ∧ x.2.2.WF := by
  intro c
  induction c with
  | skip => intro e s hw x h; cases h; exact ⟨.refl _, hw⟩
  | label l => intro e s hw x h; cases h; exact ⟨.refl _, hw⟩
  | region id ops d =>
    intro e s hw x h
    unfold execC at h
    obtain ⟨a, h1, h2⟩ := has_bind h
    cases h2
    cases d with
    | true => exact grow_execDraw hr _ _ _ _ _ hw a h1
    | false => exact grow_execOps hr _ _ _ hw a h1
  | seq a b iha ihb =>
    intro e s hw x h
    unfold execC at h
    obtain ⟨y, h1, h2⟩ := has_bind h
    have g1 := iha e s hw y h1
    obtain ⟨o, e1, s1⟩ := y
    cases o with
    | normal =>
      have g2 := ihb _ _ g1.2 x h2
      exact ⟨g1.1.trans g2.1, g2.2⟩
    | exit id => cases h2; exact g1
    | ret => cases h2; exact g1
  | cond c a b iha ihb =>
    intro e s hw x h
    unfold execC at h
    split at h
    · exact iha _ _ hw x h
    · exact ihb _ _ hw x h
    · cases h
  | block id c ih =>
    intro e s hw x h
    unfold execC at h
    obtain ⟨y, h1, h2⟩ := has_bind h
    have g1 := ih e s hw y h1
    obtain ⟨o, e1, s1⟩ := y
    cases o <;> (cases h2; exact g1)
  | loop c ih =>
    intro e s hw x h
    unfold execC at h
    obtain ⟨y, h1, h2⟩ := has_bind h
    have g1 := ih e s hw y h1
    obtain ⟨o, e1, s1⟩ := y
    cases o with
    | normal =>
      obtain ⟨z, h3, h4⟩ := has_bind h2
      have g2 := hr _ _ g1.2 z h3
      unfold outOf at h4
      split at h4
      · cases h4; exact ⟨g1.1.trans g2.1, g2.2⟩
      · cases h4
    | exit id => cases h2; exact g1
    | ret => cases h2; exact g1
  | rangeFunc f ps a b iha ihb =>
    intro e s hw x h
    unfold execC at h
    split at h
    · cases h
    · obtain ⟨y, h1, h2⟩ := has_bind h
      have g1 := hr _ _ (hw.new _) y h1
      have g2 := grow_loopEnd g1.2 h2
      exact ⟨((Grow.new s hw _).trans g1.1).trans g2.1, g2.2⟩
  | exit id => intro e s hw x h; cases h; exact ⟨.refl _, hw⟩
  | scope c ih => intro e s hw x h; exact ih e s hw x h
  | goto l => intro e s hw x h; cases h
  | ret => intro e s hw x h; cases h; exact ⟨.refl _, hw⟩
  | refuse why => intro e s hw x h; cases h

theorem grow_istep {rc : Rec} (hr : RecGrow rc) : RecGrow (istep C rc) := by
    intro t s hw x h
    unfold istep at h
    cases t with
    | code fid c e =>
      obtain ⟨y, h1, h2⟩ := has_bind h
      cases h2
      exact grow_execC hr c e s hw y h1
    | call f args =>
      simp only at h
      split at h
      · split at h
        · obtain ⟨y, h1, h2⟩ := has_bind h
          have g := grow_execC hr _ _ _ hw y h1
          unfold callEnd at h2
          split at h2
          · cases h2
          · split at h2
            · cases h2; exact g
            · cases h2
        · cases h
      · cases h
    | round l args =>
      simp only at h
      split at h
      · split at h
        · obtain ⟨y, h1, h2⟩ := has_bind h
          have g := grow_execC hr _ _ _ hw y h1
          unfold roundBody at h2
          split at h2
          · rename_i s1
            split at h2
            · rename_i lp1 hg
              split at h2
              · obtain ⟨z, h3, h4⟩ := has_bind h2
                have g0 : Grow s1 (s1.set l (.loop { lp1 with state := .busy })) := Grow.set (.inr trivial)
                have g1 := grow_execC hr _ _ _ (g.2.set hg) z h3
                unfold roundEnd at h4
                split at h4
                split at h4
                · rename_i hg2
                  cases h4
                  exact ⟨((g.1.trans g0).trans g1.1).trans (.set (.inr trivial)), g1.2.set hg2⟩
                · cases h4
              · cases h2
            · cases h2
          · cases h2
        · cases h
      · cases h

theorem grow_run : ∀ n, RecGrow (run C n)
  | 0 => fun t s hw x h => by cases h
  | n + 1 => grow_istep (grow_run n)

end
end Go.Ai
