/-
  Every operation that is no call of a function.
-/
import Derived.Test.YtfnbgfmmlgbfjaaGreatDoorAiOps11
namespace Go.Ai

/-- operands whose constants hold no addresses, and whose variables are among the first G -/
def okx (G : Nat) : Operand → Bool
  | .const v => litOk v
  | .global g => decide (g < G)
  | _ => true

section
variable {P : Program} {C : Cfg} {K : Code → Prop} (H : CfgOk P C K) {β : Bij} {own : Nat → Option Nat} {s s' : St} {w : World} {ok : Operand → Bool}

def OpSim (P : Program) (K : Code → Prop) (β : Bij) (own : Nat → Option Nat) (s : St) (w : World) (m : Sem Next) (v : Value) (s' : St) : Prop :=
  ∃ β' own' w' v', (m.run P w = .ok (.value v') w' ∨ (m.run P w = .ok .skip w' ∧ v' = undef)) ∧ Ext β own s w β' own' s' w' ∧ SR K β' own' s'.get w' ∧ VR β' v v'

theorem OpSim.ofV {m : Sem Value} {n : Sem Next} {v : Value} (h : SimV P K β own s w m v s' ∧ s'.WF) (hn : n = (do pure (.value (← m)))) : OpSim P K β own s w n v s' ∧ s'.WF := by
  obtain ⟨⟨β', own', w', v', h1, h2, h3, h4⟩, h5⟩ := h
  exact ⟨⟨β', own', w', v', .inl (by rw [hn]; simp [h1]), h2, h3, h4⟩, h5⟩
theorem OpSim.same (hs : SR K β own s.get w) (hw : s.WF) {m : Sem Value} {n : Sem Next} {v : Value} (h : ∃ v', m.run P w = .ok v' w ∧ VR β v v') (hn : n = (do pure (.value (← m)))) : OpSim P K β own s w n v s ∧ s.WF :=
  OpSim.ofV ⟨SimV.same hs h, hw⟩ hn
theorem OpSim.ofU {m : Sem Unit} {n : Sem Next} (h : SimU P K β own s w m s' ∧ s'.WF) (hn : n = (do m; pure .skip)) : OpSim P K β own s w n undef s' ∧ s'.WF := by
  obtain ⟨⟨β', own', w', h1, h2, h3⟩, h5⟩ := h
  exact ⟨⟨β', own', w', undef, .inr ⟨by rw [hn]; simp [h1], rfl⟩, h2, h3, .undef β'⟩, h5⟩

theorem vrs_map {ρ ρ' : Operand → Value} (hρ : ∀ x, ok x = true → VR β (ρ x) (ρ' x)) : ∀ {l : List Operand}, l.all (ok) = true → VRs β (l.map ρ) (l.map ρ')
  | [], _ => .nil
  | x :: l, h => by
    simp only [List.all_cons, Bool.and_eq_true] at h
    exact .cons (hρ x h.1) (vrs_map hρ h.2)

theorem opr_map {ρ ρ' : Operand → Value} (hρ : ∀ x, ok x = true → VR β (ρ x) (ρ' x)) {o : Option Operand} (h : o.toArray.all (ok) = true) : OpR β (o.map ρ) (o.map ρ') := by
  cases o with
  | none => exact .none
  | some x => exact .some (hρ x (by simpa using h))

theorem foldl_sim {f : Value → Value → Option Value} {g : Value → Value → Sem Value} (hfg : ∀ x y z, f x y = some z → (g x y).run P w = .ok z w ∧ VR β z z ∧ (∀ c, VR β x c → c = x) ∧ (∀ c, VR β y c → c = y)) :
    ∀ (l l' : List Value) (x x' v : Value), VRs β l l' → VR β x x' → foldV f x l = some v → ∃ v', (l'.foldlM g x').run P w = .ok v' w ∧ VR β v v'
  | [], l', x, x', v, hl, hx, h => by
    obtain rfl := hl.nil_inv
    obtain rfl := Option.some.inj h
    exact ⟨x', rfl, hx⟩
  | y :: r, l', x, x', v, hl, hx, h => by
    obtain ⟨y', r', rfl, hy, hr⟩ := hl.cons_inv
    unfold foldV at h
    split at h
    · rename_i z hz
      obtain ⟨h1, h2, h3, h4⟩ := hfg _ _ _ hz
      obtain rfl := h3 _ hx
      obtain rfl := h4 _ hy
      obtain ⟨v', h5, h6⟩ := foldl_sim hfg r r' z z v hr h2 h
      exact ⟨v', by simp [List.foldlM_cons, h1, h5], h6⟩
    · cases h

include H in
theorem builtin_sim (hs : SR K β own s.get w) (hw : s.WF) (hf : Free β s s') {b : Builtin} {ts : Array TypeId} {ty : TypeId} {cc : Array Bool} {args : List Value} {args' : Array Value} {v : Value} (hv : builtinV C s b ts args = some (v, s')) (ha : VRs β args args'.toList) :
    OpSim P K β own s w (builtin b ts ty cc args') v s' ∧ s'.WF := by
  have arr1 : ∀ {x : Value}, args'.toList = [x] → args' = #[x] := fun h => by cases args'; simp_all
  have arr2 : ∀ {x y : Value}, args'.toList = [x, y] → args' = #[x, y] := fun h => by cases args'; simp_all
  unfold builtinV at hv
  split at hv
  · rename_i t x ht
    rw [Option.map_eq_some_iff] at hv
    obtain ⟨r, hr, e⟩ := hv
    obtain ⟨rfl, rfl⟩ := Prod.mk.inj e
    obtain ⟨x', l', e, hx, hl⟩ := ha.cons_inv
    obtain rfl := hl.nil_inv
    rw [arr1 e]
    obtain ⟨v', h1, h2⟩ := lenB_sim (P := P) (ty := ty) H hs hr hx
    have hlen : (Builtin.len_ ts ty #[x']).run P w = (Builtin.len_ #[t] ty #[x']).run P w := by
      simp only [Builtin.len_, ht]; rfl
    exact OpSim.same hs hw ⟨v', by rw [hlen]; exact h1, h2⟩ rfl
  · rename_i t x y ht
    split at hv
    · rename_i u hu
      obtain ⟨x', l', e, hx, hl⟩ := ha.cons_inv
      obtain ⟨y', l2, rfl, hy, hl2⟩ := hl.cons_inv
      obtain rfl := hl2.nil_inv
      rw [arr2 e]
      split at hv
      · cases hv
      · rename_i uty hni huty
        have hud : ∀ k, uty.desc ≠ .int k := by
          intro k hk
          cases uty
          simp only at hk
          subst hk
          exact hni _ _ _ _ _ _ rfl
        have := append_sim (P := P) (ty := ty) (t := t) (u := u) H hs hw hf hv huty hud hx hy
        have happ : Builtin.append_ ts ty #[x', y'] = Builtin.append_ #[t, u] ty #[x', y'] := by
          simp only [Builtin.append_, ht, hu]; rfl
        exact OpSim.ofV this (by rw [← happ]; rfl)
      · cases hv
    · cases hv
  · rename_i t x y ht
    obtain ⟨x', l', e, hx, hl⟩ := ha.cons_inv
    obtain ⟨y', l2, rfl, hy, hl2⟩ := hl.cons_inv
    obtain rfl := hl2.nil_inv
    rw [arr2 e]
    have := copy_sim (P := P) (ty := ty) (t := t) (u := 0) H hs hw hv hx hy
    have happ : Builtin.copy_ ts ty #[x', y'] = Builtin.copy_ #[t, 0] ty #[x', y'] := by
      simp only [Builtin.copy_, ht]; rfl
    exact OpSim.ofV this (by rw [← happ]; rfl)
  · rename_i t x y ht
    rw [Option.map_eq_some_iff] at hv
    obtain ⟨s1, hd, e0⟩ := hv
    obtain ⟨rfl, rfl⟩ := Prod.mk.inj e0
    obtain ⟨x', l', e, hx, hl⟩ := ha.cons_inv
    obtain ⟨y', l2, rfl, hy, hl2⟩ := hl.cons_inv
    obtain rfl := hl2.nil_inv
    rw [arr2 e]
    have := delete_sim (P := P) (ty := ty) (t := t) (u := 0) H hs hw hd hx hy
    have happ : Builtin.delete_ ts ty #[x', y'] = Builtin.delete_ #[t, 0] ty #[x', y'] := by
      simp only [Builtin.delete_, ht]; rfl
    exact OpSim.ofV this (by rw [← happ]; rfl)
  · rename_i x r
    rw [Option.map_eq_some_iff] at hv
    obtain ⟨q, hr, e0⟩ := hv
    obtain ⟨rfl, rfl⟩ := Prod.mk.inj e0
    obtain ⟨x', l', e, hx, hl⟩ := ha.cons_inv
    obtain ⟨v', h1, h2⟩ := foldl_sim (P := P) (w := w) (f := max2V) (g := Builtin.max2) (fun x y z h => by
      unfold max2V at h
      split at h
      · split at h
        · rename_i e; subst e
          obtain rfl := Option.some.inj h
          exact ⟨by simp [Builtin.max2], .int _ _, fun c hc => int_inv hc, fun c hc => int_inv hc⟩
        · cases h
      · cases h) _ _ _ _ _ hl hx hr
    refine OpSim.same hs hw ⟨v', ?_, h2⟩ (m := Builtin.max_ ts ty args') rfl
    simp only [Builtin.max_, e]
    exact h1
  · rename_i x r
    rw [Option.map_eq_some_iff] at hv
    obtain ⟨q, hr, e0⟩ := hv
    obtain ⟨rfl, rfl⟩ := Prod.mk.inj e0
    obtain ⟨x', l', e, hx, hl⟩ := ha.cons_inv
    obtain ⟨v', h1, h2⟩ := foldl_sim (P := P) (w := w) (f := min2V) (g := Builtin.min2) (fun x y z h => by
      unfold min2V at h
      split at h
      · split at h
        · rename_i e; subst e
          obtain rfl := Option.some.inj h
          exact ⟨by simp [Builtin.min2], .int _ _, fun c hc => int_inv hc, fun c hc => int_inv hc⟩
        · cases h
      · cases h) _ _ _ _ _ hl hx hr
    refine OpSim.same hs hw ⟨v', ?_, h2⟩ (m := Builtin.min_ ts ty args') rfl
    simp only [Builtin.min_, e]
    exact h1
  · cases hv

include H in
theorem evalOp_sim (hs : SR K β own s.get w) (hw : s.WF) (hf : Free β s s') {ρ ρ' : Operand → Value} (hρ : ∀ x, ok x = true → VR β (ρ x) (ρ' x)) {o : Oper} (hok : o.op.operands.all (ok) = true) {v : Value} (hv : evalOp C ρ s o.op = some (v, s')) :
    OpSim P K β own s w (execOp ρ' o) v s' ∧ s'.WF := by
  obtain ⟨dst, op, type, pos, after, guard⟩ := o
  simp only at hv hok
  unfold evalOp at hv
  unfold execOp
  simp only
  split at hv
  · rename_i x
    obtain ⟨rfl, rfl⟩ := Prod.mk.inj (Option.some.inj hv)
    have hx := hρ x (by simpa [Op.operands] using hok)
    exact ⟨⟨β, own, w, _, .inl rfl, .refl .., hs, hx⟩, hw⟩
  · rename_i x
    obtain ⟨rfl, rfl⟩ := Prod.mk.inj (Option.some.inj hv)
    have hx := hρ x (by simpa [Op.operands] using hok)
    exact ⟨⟨β, own, w, _, .inl rfl, .refl .., hs, hx⟩, hw⟩
  · rename_i c a b
    simp only [Op.operands, List.all_toArray, List.all_cons, List.all_nil, Bool.and_eq_true] at hok
    simp at hok
    obtain ⟨h1, h2, h3⟩ := hok
    split at hv
    · rename_i t ht
      obtain ⟨rfl, rfl⟩ := Prod.mk.inj (Option.some.inj hv)
      have hc := hρ c h1
      rw [ht] at hc
      have hc' := bool_inv hc
      refine ⟨⟨β, own, w, if t then ρ' a else ρ' b, .inl (by simp [hc', asBool]), .refl .., hs, ?_⟩, hw⟩
      cases t
      · exact hρ b h3
      · exact hρ a h2
    · cases hv
  · rename_i t
    split at hv
    · rename_i z _ _ hty
      obtain ⟨rfl, rfl⟩ := Prod.mk.inj (Option.some.inj hv)
      have hz := H.zero _ _ _ hty rfl
      refine OpSim.ofV (SimV.new_obj (O := .cells z.cells t) hs hw hf rfl (fun b => ⟨z.cells, t, rfl, (litOk_self _ hz).cells⟩) (m := Instr.alloc t true (.tuple #[])) (v' := .pointer (some ⟨w.heap.size, 0, none⟩)) ?_ (.ptrObj (setObj_at _ _ _))) rfl
      simp [Instr.alloc, run_zero H hty rfl, newVar, newRow]
    · cases hv
  · rename_i t x
    obtain ⟨rfl, rfl⟩ := Prod.mk.inj (Option.some.inj hv)
    have hx := hρ x (by simpa [Op.operands] using hok)
    have h1 := hf.obj (by rw [St.n_new]; omega)
    refine OpSim.ofV (SimV.new_obj (O := .cells (ρ' x).cells t) hs hw hf rfl (fun b => ⟨_, t, rfl, hx.cells.mono (Bij.le_setObj h1)⟩) (m := Instr.box t (ρ' x)) (v' := .pointer (some ⟨w.heap.size, 0, none⟩)) ?_ (.ptrObj (setObj_at _ _ _))) rfl
    simp [Instr.box, newVar, newRow]
  · rename_i t parts
    rw [Option.map_eq_some_iff] at hv
    obtain ⟨r, hr, e⟩ := hv
    obtain ⟨rfl, rfl⟩ := Prod.mk.inj e
    have hall : (parts.toList.map (·.2)).all (ok) = true := by
      simp only [Op.operands] at hok
      simpa using hok
    have := build_sim (P := P) (β := β) (w := w) (parts' := parts.map fun (i, x) => (i, ρ' x)) H hr (by simp [Function.comp_def]) (by
      have := vrs_map hρ hall
      simpa [Function.comp_def] using this)
    exact OpSim.same hs hw this rfl
  · rename_i t len parts
    have hall : (parts.toList.map (·.2)).all (ok) = true := by
      simp only [Op.operands] at hok
      simpa using hok
    have := buildSlice_sim (P := P) (parts' := parts.map fun (i, x) => (i, ρ' x)) H hs hw hf hv (by simp [Function.comp_def]) (by
      have := vrs_map hρ hall
      simpa [Function.comp_def] using this)
    exact OpSim.ofV this rfl
  · rename_i t a
    rw [Option.map_eq_some_iff] at hv
    obtain ⟨r, hr, e⟩ := hv
    obtain ⟨rfl, rfl⟩ := Prod.mk.inj e
    exact OpSim.same hs hw (load_sim H hs hr (hρ a (by simpa [Op.operands] using hok))) rfl
  · rename_i t a x
    rw [Option.map_eq_some_iff] at hv
    obtain ⟨s1, hr, e⟩ := hv
    obtain ⟨rfl, rfl⟩ := Prod.mk.inj e
    simp [Op.operands] at hok
    obtain ⟨w', q1, q2, q3, q4, _⟩ := store_sim (P := P) H hs hw hr (hρ a hok.1) (hρ x hok.2)
    exact OpSim.ofU ⟨⟨β, own, w', q1, q2, q3⟩, q4⟩ rfl
  · rename_i x
    have hx := hρ x (by simpa [Op.operands] using hok)
    have key : ∀ y, ρ' x = y → (∀ f a b, y = .func f a b → ∀ n, f ≠ .method n) → y ≠ .pointer none → y ≠ .nilIface → y ≠ .nilFunc → execOp ρ' ⟨dst, .nilCheck x, type, pos, after, guard⟩ = pure (.value y) := by
      intro y hy h1 h2 h3 h4
      simp only [execOp, hy]
      split
      · exact absurd rfl h2
      · exact absurd rfl h3
      · exact absurd rfl h4
      · exact absurd rfl (h1 _ _ _ rfl _)
      · rfl
    split at hv
    · rename_i a ha
      obtain ⟨rfl, rfl⟩ := Prod.mk.inj (Option.some.inj hv)
      rw [ha] at hx
      obtain ⟨a', e, _⟩ := ptr_plus (n := 0) hx
      rw [e] at hx
      exact ⟨⟨β, own, w, _, .inl (by have := key _ e (by intros; simp_all) (by simp) (by simp) (by simp); exact congrArg (fun m => Sem.run P m w) this), .refl .., hs, hx⟩, hw⟩
    · rename_i f a b ha
      obtain ⟨rfl, rfl⟩ := Prod.mk.inj (Option.some.inj hv)
      rw [ha] at hx
      generalize e : ρ' x = y at hx
      cases hx with
      | func h1 h2 h3 =>
        cases h1 with
        | same => exact ⟨⟨β, own, w, _, .inl (by have := key _ e (by intro f a b h; cases h; intro n hn; cases hn) (by simp) (by simp) (by simp); exact congrArg (fun m => Sem.run P m w) this), .refl .., hs, .func (.same _ (by intro l; simp)) h2 h3⟩, hw⟩
    · rename_i l a b ha
      obtain ⟨rfl, rfl⟩ := Prod.mk.inj (Option.some.inj hv)
      rw [ha] at hx
      generalize e : ρ' x = y at hx
      cases hx with
      | func h1 h2 h3 =>
        cases h1 with
        | same _ h => exact absurd rfl (h l)
        | yield h => exact ⟨⟨β, own, w, _, .inl (by have := key _ e (by intro f a b h; cases h; intro n hn; cases hn) (by simp) (by simp) (by simp); exact congrArg (fun m => Sem.run P m w) this), .refl .., hs, .func (.yield h) h2 h3⟩, hw⟩
    · rename_i t u ha
      obtain ⟨rfl, rfl⟩ := Prod.mk.inj (Option.some.inj hv)
      rw [ha] at hx
      generalize e : ρ' x = y at hx
      cases hx with
      | iface h => exact ⟨⟨β, own, w, _, .inl (by have := key _ e (by intros; simp_all) (by simp) (by simp) (by simp); exact congrArg (fun m => Sem.run P m w) this), .refl .., hs, .iface h⟩, hw⟩
    · cases hv
  · rename_i op2 t x y yt
    rw [Option.map_eq_some_iff] at hv
    obtain ⟨r, hr, e⟩ := hv
    obtain ⟨rfl, rfl⟩ := Prod.mk.inj e
    simp [Op.operands] at hok
    exact OpSim.same hs hw (binV_sim (P := P) H hs (hρ x hok.1) (hρ y hok.2) hr) rfl
  · rename_i op2 t x
    rw [Option.map_eq_some_iff] at hv
    obtain ⟨r, hr, e⟩ := hv
    obtain ⟨rfl, rfl⟩ := Prod.mk.inj e
    have hx := hρ x (by simpa [Op.operands] using hok)
    exact OpSim.same hs hw ⟨_, unV_sim (P := P) hx hr⟩ rfl
  · rename_i a b x
    have hx := hρ x (by simpa [Op.operands] using hok)
    exact OpSim.ofV (convS_sim (P := P) H hs hw hf hv hx) rfl
  · rename_i t x
    have hx := hρ x (by simpa [Op.operands] using hok)
    split at hv
    · cases hv
    · rename_i ty hni hty
      obtain ⟨rfl, rfl⟩ := Prod.mk.inj (Option.some.inj hv)
      refine OpSim.same hs hw ⟨.iface t (ρ' x), ?_, .iface hx⟩ rfl
      simp only [Instr.makeInterface, Sem.run_bind, run_under H hty, Result.andThen_ok]
      cases hd : ty.desc <;> first
        | rfl
        | (exfalso
           cases ty
           simp only at hd
           subst hd
           exact hni _ _ _ _ _ _ rfl)
    · cases hv
  · rename_i fn first captured
    simp only [Op.operands, Array.all_append, Bool.and_eq_true] at hok
    obtain ⟨h1, h2⟩ := hok
    split at hv
    · cases hv
    · rename_i hny
      obtain ⟨rfl, rfl⟩ := Prod.mk.inj (Option.some.inj hv)
      refine OpSim.same hs hw ⟨.func fn (first.map ρ') (captured.map ρ'), rfl, .func (.same _ (fun l e => hny l e)) ?_ ?_⟩ rfl
      · simpa using vrs_map hρ (l := first.toList) (by simpa using h1)
      · simpa using vrs_map hρ (l := captured.toList) (by simpa using h2)
  · rename_i t r
    split at hv
    · rename_i hty
      obtain ⟨rfl, rfl⟩ := Prod.mk.inj (Option.some.inj hv)
      refine OpSim.ofV (SimV.new_obj (O := .map #[] 0) hs hw hf rfl (fun b => ⟨#[], rfl, .nil⟩) (m := Instr.makeMap t none) (v' := .map (some w.heap.size)) ?_ (.map (setObj_at _ _ _))) rfl
      simp [Instr.makeMap]
    · rename_i r hty
      split at hv
      · rename_i k n hr
        obtain ⟨rfl, rfl⟩ := Prod.mk.inj (Option.some.inj hv)
        have hx := hρ r (by simpa [Op.operands] using hok)
        rw [hr] at hx
        have hx := int_inv hx
        refine OpSim.ofV (SimV.new_obj (O := .map #[] 0) hs hw hf rfl (fun b => ⟨#[], rfl, .nil⟩) (m := Instr.makeMap t (some (ρ' r))) (v' := .map (some w.heap.size)) ?_ (.map (setObj_at _ _ _))) rfl
        simp [Instr.makeMap, hx, run_under H hty, asInt, asIntOf]
      · cases hv
    · cases hv
  · rename_i t l c
    simp [Op.operands] at hok
    exact OpSim.ofV (makeSlice_sim (P := P) H hs hw hf hv (hρ l hok.1) (hρ c hok.2)) rfl
  · rename_i t x lo hi mx
    rw [Option.map_eq_some_iff] at hv
    obtain ⟨r, hr, e⟩ := hv
    obtain ⟨rfl, rfl⟩ := Prod.mk.inj e
    simp only [Op.operands, Array.all_append, Bool.and_eq_true] at hok
    obtain ⟨⟨⟨h0, h1⟩, h2⟩, h3⟩ := hok
    exact OpSim.same hs hw (slice_sim (P := P) H hr (hρ x (by simpa using h0)) (opr_map hρ h1) (opr_map hρ h2) (opr_map hρ h3)) rfl
  · rename_i t x i
    rw [Option.map_eq_some_iff] at hv
    obtain ⟨r, hr, e⟩ := hv
    obtain ⟨rfl, rfl⟩ := Prod.mk.inj e
    have hx := hρ x (by simpa [Op.operands] using hok)
    exact OpSim.same hs hw (fieldAddr_sim (P := P) H hr hx) rfl
  · rename_i t x i
    rw [Option.map_eq_some_iff] at hv
    obtain ⟨r, hr, e⟩ := hv
    obtain ⟨rfl, rfl⟩ := Prod.mk.inj e
    have hx := hρ x (by simpa [Op.operands] using hok)
    exact OpSim.same hs hw (field_sim (P := P) H hr hx) rfl
  · rename_i t x i
    rw [Option.map_eq_some_iff] at hv
    obtain ⟨r, hr, e⟩ := hv
    obtain ⟨rfl, rfl⟩ := Prod.mk.inj e
    simp [Op.operands] at hok
    exact OpSim.same hs hw (indexAddr_sim (P := P) H hr (hρ x hok.1) (hρ i hok.2)) rfl
  · rename_i t x i
    rw [Option.map_eq_some_iff] at hv
    obtain ⟨r, hr, e⟩ := hv
    obtain ⟨rfl, rfl⟩ := Prod.mk.inj e
    simp [Op.operands] at hok
    exact OpSim.same hs hw (index_sim (P := P) H hr (hρ x hok.1) (hρ i hok.2)) rfl
  · rename_i t m k ok
    rw [Option.map_eq_some_iff] at hv
    obtain ⟨r, hr, e⟩ := hv
    obtain ⟨rfl, rfl⟩ := Prod.mk.inj e
    simp [Op.operands] at hok
    exact OpSim.same hs hw (lookup_sim (P := P) H hs hr (hρ m hok.1) (hρ k hok.2)) rfl
  · rename_i t m k x
    rw [Option.map_eq_some_iff] at hv
    obtain ⟨s1, hr, e⟩ := hv
    obtain ⟨rfl, rfl⟩ := Prod.mk.inj e
    simp [Op.operands] at hok
    exact OpSim.ofU (update_sim (P := P) H hs hw hr (hρ m hok.1) (hρ k hok.2.1) (hρ x hok.2.2)) rfl
  · rename_i t m k x
    rw [Option.map_eq_some_iff] at hv
    obtain ⟨s1, hr, e⟩ := hv
    obtain ⟨rfl, rfl⟩ := Prod.mk.inj e
    simp [Op.operands] at hok
    exact OpSim.ofU (update_sim (P := P) H hs hw hr (hρ m hok.1) (hρ k hok.2.1) (hρ x hok.2.2)) rfl
  · rename_i t m k
    simp [Op.operands] at hok
    exact OpSim.ofV (mapEntry_sim (P := P) H hs hw hv (hρ m hok.1) (hρ k hok.2)) rfl
  · rename_i t m st x
    rw [Option.map_eq_some_iff] at hv
    obtain ⟨s1, hr, e⟩ := hv
    obtain ⟨rfl, rfl⟩ := Prod.mk.inj e
    simp [Op.operands] at hok
    exact OpSim.ofU (entryStore_sim (P := P) hs hw hr (hρ m hok.1) (hρ st hok.2.1) (hρ x hok.2.2)) rfl
  · rename_i t x
    have hx := hρ x (by simpa [Op.operands] using hok)
    exact OpSim.ofV (range_sim (P := P) H hs hw hf hv hx) rfl
  · rename_i it
    rw [Option.map_eq_some_iff] at hv
    obtain ⟨r, hr, e⟩ := hv
    obtain ⟨rfl, rfl⟩ := Prod.mk.inj e
    have hx := hρ it (by simpa [Op.operands] using hok)
    exact OpSim.same hs hw (entry_sim (P := P) hs hr hx) rfl
  · rename_i x xt t ok
    rw [Option.map_eq_some_iff] at hv
    obtain ⟨r, hr, e⟩ := hv
    obtain ⟨rfl, rfl⟩ := Prod.mk.inj e
    have hx := hρ x (by simpa [Op.operands] using hok)
    exact OpSim.same hs hw (assert_sim (P := P) H hr hx) rfl
  · rename_i t ix
    have hx := hρ t (by simpa [Op.operands] using hok)
    split at hv
    · rename_i vs hvs
      rw [Option.map_eq_some_iff] at hv
      obtain ⟨r, hr, e⟩ := hv
      obtain ⟨rfl, rfl⟩ := Prod.mk.inj e
      rw [hvs] at hx
      generalize e : ρ' t = y at hx
      cases hx with
      | @tuple _ a' ha =>
        obtain ⟨v', h1, h2⟩ := ha.get (by simpa using hr)
        have h1 : a'[ix]? = some v' := by simpa using h1
        exact OpSim.same hs hw (m := Instr.extract (ρ' t) ix) ⟨v', by rw [e]; simp [Instr.extract, h1], h2⟩ rfl
    · cases hv
  · rename_i b args argTypes
    have hall : args.toList.all (ok) = true := by
      simp [Op.operands, Call.operands] at hok
      simpa using hok
    have := builtin_sim (P := P) (ty := type) (cc := args.map fun | .const _ => true | _ => false) (args' := args.map ρ') H hs hw hf hv (by simpa using vrs_map hρ hall)
    obtain ⟨⟨β', own', w', v', h1, h2⟩, h3⟩ := this
    refine ⟨⟨β', own', w', v', ?_, h2⟩, h3⟩
    rcases h1 with h1 | ⟨h1, h4⟩
    · exact .inl (by simp only [resolve, Sem.run_bind, Sem.run_pure, Result.andThen_ok, invoke]; exact h1)
    · exact .inr ⟨by simp only [resolve, Sem.run_bind, Sem.run_pure, Result.andThen_ok, invoke]; exact h1, h4⟩
  · cases hv

end
end Go.Ai
