/-
  The operations that leave memory alone, and those that make something new: what they hang on.
-/
import Derived.Test.YtfnbgfmmlgbfjaaGreatDoorAiRun
namespace Go.Ai

theorem SR.weak {K : Code → Prop} {β : Bij} {own : Nat → Option Nat} {g g' : Nat → Option AObj} {w : World} (h : SR K β own g w) (hg : ∀ i, β.dom i → g' i = g i ∨ g' i = none) : SR K β own g' w where
  obj i b hb := by
    obtain ⟨h1, h2, h3⟩ := h.obj i b hb
    refine ⟨h1, h2, fun o ho => ?_⟩
    rcases hg i (.inl ⟨b, hb⟩) with e | e
    · exact h3 o (by rw [← e]; exact ho)
    · rw [e] at ho; cases ho
  arr i hi L hL cs mv ro hc := by
    rcases hg i (.inr ⟨hi, L, hL⟩) with e | e
    · exact h.arr i hi L hL cs mv ro (by rw [← e]; exact hc)
    · rw [e] at hc; cases hc
  loc := h.loc
  blk := h.blk
  one := h.one
  small := h.small

section
variable {P : Program} {C : Cfg} {K : Code → Prop} (H : CfgOk P C K) {β : Bij} {own : Nat → Option Nat} {s s' : St} {w : World} {ok : Operand → Bool}

theorem pureSame {m : Sem Value} {n : Sem Next} {v : Value} (h : ∃ v', m.run P w = .ok v' w ∧ VR β v v') (hn : n = (do pure (.value (← m)))) : s = s ∧ ∃ v', n.run P w = .ok (.value v') w ∧ VR β v v' := by
  obtain ⟨v', h1, h2⟩ := h
  exact ⟨rfl, v', by rw [hn]; simp [h1], h2⟩

include H in
theorem builtin_pure (hs : SR K β own s.get w) {b : Builtin} {ts : Array TypeId} {ty : TypeId} {cc : Array Bool} {args0 : Array Operand} (hc : opClass C (.call { callee := .builtin b, args := args0, argTypes := ts }) = 0 ∨ opClass C (.call { callee := .builtin b, args := args0, argTypes := ts }) = 2)
    {args : List Value} {args' : Array Value} {v : Value} (hv : builtinV C s b ts args = some (v, s')) (ha : VRs β args args'.toList) :
    s' = s ∧ ∃ v', (builtin b ts ty cc args').run P w = .ok (.value v') w ∧ VR β v v' := by
  have arr1 : ∀ {x : Value}, args'.toList = [x] → args' = #[x] := fun h => by cases args'; simp_all
  unfold builtinV at hv
  split at hv
  · rename_i t x ht
    rw [Option.map_eq_some_iff] at hv
    obtain ⟨r, hr, e⟩ := hv
    obtain ⟨rfl, rfl⟩ := Prod.mk.inj e
    obtain ⟨x', l', e, hx, hl⟩ := ha.cons_inv
    obtain rfl := hl.nil_inv
    rw [arr1 e]
    obtain ⟨v', h1, h2⟩ := lenB_sim (P := P) (ty := ty) H hs hr hx
    have hlen : (Builtin.len_ ts ty #[x']).run P w = (Builtin.len_ #[t] ty #[x']).run P w := by
      simp only [Builtin.len_, ht]; rfl
    exact pureSame ⟨v', by rw [hlen]; exact h1, h2⟩ rfl
  · simp [opClass] at hc
  · simp [opClass] at hc
  · simp [opClass] at hc
  · rename_i x r
    rw [Option.map_eq_some_iff] at hv
    obtain ⟨q, hr, e0⟩ := hv
    obtain ⟨rfl, rfl⟩ := Prod.mk.inj e0
    obtain ⟨x', l', e, hx, hl⟩ := ha.cons_inv
    obtain ⟨v', h1, h2⟩ := foldl_sim (P := P) (w := w) (f := max2V) (g := Builtin.max2) (fun x y z h => by
      unfold max2V at h
      split at h
      · split at h
        · rename_i e; subst e
          obtain rfl := Option.some.inj h
          exact ⟨by simp [Builtin.max2], .int _ _, fun c hc => int_inv hc, fun c hc => int_inv hc⟩
        · cases h
      · cases h) _ _ _ _ _ hl hx hr
    refine pureSame ⟨v', ?_, h2⟩ (m := Builtin.max_ ts ty args') rfl
    simp only [Builtin.max_, e]
    exact h1
  · rename_i x r
    rw [Option.map_eq_some_iff] at hv
    obtain ⟨q, hr, e0⟩ := hv
    obtain ⟨rfl, rfl⟩ := Prod.mk.inj e0
    obtain ⟨x', l', e, hx, hl⟩ := ha.cons_inv
    obtain ⟨v', h1, h2⟩ := foldl_sim (P := P) (w := w) (f := min2V) (g := Builtin.min2) (fun x y z h => by
      unfold min2V at h
      split at h
      · split at h
        · rename_i e; subst e
          obtain rfl := Option.some.inj h
          exact ⟨by simp [Builtin.min2], .int _ _, fun c hc => int_inv hc, fun c hc => int_inv hc⟩
        · cases h
      · cases h) _ _ _ _ _ hl hx hr
    refine pureSame ⟨v', ?_, h2⟩ (m := Builtin.min_ ts ty args') rfl
    simp only [Builtin.min_, e]
    exact h1
  · cases hv

include H in
/-- an operation that leaves memory alone -/
theorem evalOp_pure (hs : SR K β own s.get w) {ρ ρ' : Operand → Value} (hρ : ∀ x, ok x = true → VR β (ρ x) (ρ' x)) {o : Oper} (hok : o.op.operands.all ok = true) (hc : opClass C o.op = 0 ∨ opClass C o.op = 2) {v : Value} (hv : evalOp C ρ s o.op = some (v, s')) :
    s' = s ∧ ∃ v', (execOp ρ' o).run P w = .ok (.value v') w ∧ VR β v v' := by
  obtain ⟨dst, op, type, pos, after, guard⟩ := o
  simp only at hv hok hc
  unfold evalOp at hv
  unfold execOp
  simp only
  split at hv
  · rename_i x
    obtain ⟨rfl, rfl⟩ := Prod.mk.inj (Option.some.inj hv)
    have hx := hρ x (by simpa [Op.operands] using hok)
    exact ⟨rfl, _, rfl, hx⟩
  · rename_i x
    obtain ⟨rfl, rfl⟩ := Prod.mk.inj (Option.some.inj hv)
    have hx := hρ x (by simpa [Op.operands] using hok)
    exact ⟨rfl, _, rfl, hx⟩
  · rename_i c a b
    simp only [Op.operands, List.all_toArray, List.all_cons, List.all_nil, Bool.and_eq_true] at hok
    simp at hok
    obtain ⟨h1, h2, h3⟩ := hok
    split at hv
    · rename_i t ht
      obtain ⟨rfl, rfl⟩ := Prod.mk.inj (Option.some.inj hv)
      have hc := hρ c h1
      rw [ht] at hc
      have hc' := bool_inv hc
      refine ⟨rfl, if t then ρ' a else ρ' b, (by simp [hc', asBool]), ?_⟩
      cases t
      · exact hρ b h3
      · exact hρ a h2
    · cases hv
  · simp [opClass] at hc
  · simp [opClass] at hc
  · rename_i t parts
    rw [Option.map_eq_some_iff] at hv
    obtain ⟨r, hr, e⟩ := hv
    obtain ⟨rfl, rfl⟩ := Prod.mk.inj e
    have hall : (parts.toList.map (·.2)).all (ok) = true := by
      simp only [Op.operands] at hok
      simpa using hok
    have := build_sim (P := P) (β := β) (w := w) (parts' := parts.map fun (i, x) => (i, ρ' x)) H hr (by simp [Function.comp_def]) (by
      have := vrs_map hρ hall
      simpa [Function.comp_def] using this)
    exact pureSame this rfl
  · simp [opClass] at hc
  · rename_i t a
    rw [Option.map_eq_some_iff] at hv
    obtain ⟨r, hr, e⟩ := hv
    obtain ⟨rfl, rfl⟩ := Prod.mk.inj e
    exact pureSame (load_sim H hs hr (hρ a (by simpa [Op.operands] using hok))) rfl
  · simp [opClass] at hc
  · rename_i x
    have hx := hρ x (by simpa [Op.operands] using hok)
    have key : ∀ y, ρ' x = y → (∀ f a b, y = .func f a b → ∀ n, f ≠ .method n) → y ≠ .pointer none → y ≠ .nilIface → y ≠ .nilFunc → execOp ρ' ⟨dst, .nilCheck x, type, pos, after, guard⟩ = pure (.value y) := by
      intro y hy h1 h2 h3 h4
      simp only [execOp, hy]
      split
      · exact absurd rfl h2
      · exact absurd rfl h3
      · exact absurd rfl h4
      · exact absurd rfl (h1 _ _ _ rfl _)
      · rfl
    split at hv
    · rename_i a ha
      obtain ⟨rfl, rfl⟩ := Prod.mk.inj (Option.some.inj hv)
      rw [ha] at hx
      obtain ⟨a', e, _⟩ := ptr_plus (n := 0) hx
      rw [e] at hx
      exact ⟨rfl, _, (by have := key _ e (by intros; simp_all) (by simp) (by simp) (by simp); exact congrArg (fun m => Sem.run P m w) this), hx⟩
    · rename_i f a b ha
      obtain ⟨rfl, rfl⟩ := Prod.mk.inj (Option.some.inj hv)
      rw [ha] at hx
      generalize e : ρ' x = y at hx
      cases hx with
      | func h1 h2 h3 =>
        cases h1 with
        | same => exact ⟨rfl, _, (by have := key _ e (by intro f a b h; cases h; intro n hn; cases hn) (by simp) (by simp) (by simp); exact congrArg (fun m => Sem.run P m w) this), .func (.same _ (by intro l; simp)) h2 h3⟩
    · rename_i l a b ha
      obtain ⟨rfl, rfl⟩ := Prod.mk.inj (Option.some.inj hv)
      rw [ha] at hx
      generalize e : ρ' x = y at hx
      cases hx with
      | func h1 h2 h3 =>
        cases h1 with
        | same _ h => exact absurd rfl (h l)
        | yield h => exact ⟨rfl, _, (by have := key _ e (by intro f a b h; cases h; intro n hn; cases hn) (by simp) (by simp) (by simp); exact congrArg (fun m => Sem.run P m w) this), .func (.yield h) h2 h3⟩
    · rename_i t u ha
      obtain ⟨rfl, rfl⟩ := Prod.mk.inj (Option.some.inj hv)
      rw [ha] at hx
      generalize e : ρ' x = y at hx
      cases hx with
      | iface h => exact ⟨rfl, _, (by have := key _ e (by intros; simp_all) (by simp) (by simp) (by simp); exact congrArg (fun m => Sem.run P m w) this), .iface h⟩
    · cases hv
  · rename_i op2 t x y yt
    rw [Option.map_eq_some_iff] at hv
    obtain ⟨r, hr, e⟩ := hv
    obtain ⟨rfl, rfl⟩ := Prod.mk.inj e
    simp [Op.operands] at hok
    exact pureSame (binV_sim (P := P) H hs (hρ x hok.1) (hρ y hok.2) hr) rfl
  · rename_i op2 t x
    rw [Option.map_eq_some_iff] at hv
    obtain ⟨r, hr, e⟩ := hv
    obtain ⟨rfl, rfl⟩ := Prod.mk.inj e
    have hx := hρ x (by simpa [Op.operands] using hok)
    exact pureSame ⟨_, unV_sim (P := P) hx hr⟩ rfl
  · rename_i a b x
    have hx := hρ x (by simpa [Op.operands] using hok)
    unfold convS at hv
    split at hv
    · rename_i h1 h2 _
      simp [opClass, h1, h2] at hc
    · rename_i h1 h2 _
      simp [opClass, h1, h2] at hc
    · rename_i h1 h2 _
      simp [opClass, h1, h2] at hc
    · rw [Option.map_eq_some_iff] at hv
      obtain ⟨r, hr, e⟩ := hv
      obtain ⟨rfl, rfl⟩ := Prod.mk.inj e
      exact pureSame (conv_sim (P := P) H hr hx) rfl
  · rename_i t x
    have hx := hρ x (by simpa [Op.operands] using hok)
    split at hv
    · cases hv
    · rename_i ty hni hty
      obtain ⟨rfl, rfl⟩ := Prod.mk.inj (Option.some.inj hv)
      refine pureSame ⟨.iface t (ρ' x), ?_, .iface hx⟩ rfl
      simp only [Instr.makeInterface, Sem.run_bind, run_under H hty, Result.andThen_ok]
      cases hd : ty.desc <;> first
        | rfl
        | (exfalso
           cases ty
           simp only at hd
           subst hd
           exact hni _ _ _ _ _ _ rfl)
    · cases hv
  · rename_i fn first captured
    simp only [Op.operands, Array.all_append, Bool.and_eq_true] at hok
    obtain ⟨h1, h2⟩ := hok
    split at hv
    · cases hv
    · rename_i hny
      obtain ⟨rfl, rfl⟩ := Prod.mk.inj (Option.some.inj hv)
      refine pureSame ⟨.func fn (first.map ρ') (captured.map ρ'), rfl, .func (.same _ (fun l e => hny l e)) ?_ ?_⟩ rfl
      · simpa using vrs_map hρ (l := first.toList) (by simpa using h1)
      · simpa using vrs_map hρ (l := captured.toList) (by simpa using h2)
  · simp [opClass] at hc
  · simp [opClass] at hc
  · rename_i t x lo hi mx
    rw [Option.map_eq_some_iff] at hv
    obtain ⟨r, hr, e⟩ := hv
    obtain ⟨rfl, rfl⟩ := Prod.mk.inj e
    simp only [Op.operands, Array.all_append, Bool.and_eq_true] at hok
    obtain ⟨⟨⟨h0, h1⟩, h2⟩, h3⟩ := hok
    exact pureSame (slice_sim (P := P) H hr (hρ x (by simpa using h0)) (opr_map hρ h1) (opr_map hρ h2) (opr_map hρ h3)) rfl
  · rename_i t x i
    rw [Option.map_eq_some_iff] at hv
    obtain ⟨r, hr, e⟩ := hv
    obtain ⟨rfl, rfl⟩ := Prod.mk.inj e
    have hx := hρ x (by simpa [Op.operands] using hok)
    exact pureSame (fieldAddr_sim (P := P) H hr hx) rfl
  · rename_i t x i
    rw [Option.map_eq_some_iff] at hv
    obtain ⟨r, hr, e⟩ := hv
    obtain ⟨rfl, rfl⟩ := Prod.mk.inj e
    have hx := hρ x (by simpa [Op.operands] using hok)
    exact pureSame (field_sim (P := P) H hr hx) rfl
  · rename_i t x i
    rw [Option.map_eq_some_iff] at hv
    obtain ⟨r, hr, e⟩ := hv
    obtain ⟨rfl, rfl⟩ := Prod.mk.inj e
    simp [Op.operands] at hok
    exact pureSame (indexAddr_sim (P := P) H hr (hρ x hok.1) (hρ i hok.2)) rfl
  · rename_i t x i
    rw [Option.map_eq_some_iff] at hv
    obtain ⟨r, hr, e⟩ := hv
    obtain ⟨rfl, rfl⟩ := Prod.mk.inj e
    simp [Op.operands] at hok
    exact pureSame (index_sim (P := P) H hr (hρ x hok.1) (hρ i hok.2)) rfl
  · rename_i t m k ok
    rw [Option.map_eq_some_iff] at hv
    obtain ⟨r, hr, e⟩ := hv
    obtain ⟨rfl, rfl⟩ := Prod.mk.inj e
    simp [Op.operands] at hok
    exact pureSame (lookup_sim (P := P) H hs hr (hρ m hok.1) (hρ k hok.2)) rfl
  · simp [opClass] at hc
  · simp [opClass] at hc
  · simp [opClass] at hc
  · simp [opClass] at hc
  · simp [opClass] at hc
  · simp [opClass] at hc
  · rename_i x xt t ok
    rw [Option.map_eq_some_iff] at hv
    obtain ⟨r, hr, e⟩ := hv
    obtain ⟨rfl, rfl⟩ := Prod.mk.inj e
    have hx := hρ x (by simpa [Op.operands] using hok)
    exact pureSame (assert_sim (P := P) H hr hx) rfl
  · rename_i t ix
    have hx := hρ t (by simpa [Op.operands] using hok)
    split at hv
    · rename_i vs hvs
      rw [Option.map_eq_some_iff] at hv
      obtain ⟨r, hr, e⟩ := hv
      obtain ⟨rfl, rfl⟩ := Prod.mk.inj e
      rw [hvs] at hx
      generalize e : ρ' t = y at hx
      cases hx with
      | @tuple _ a' ha =>
        obtain ⟨v', h1, h2⟩ := ha.get (by simpa using hr)
        have h1 : a'[ix]? = some v' := by simpa using h1
        exact pureSame (m := Instr.extract (ρ' t) ix) ⟨v', by rw [e]; simp [Instr.extract, h1], h2⟩ rfl
    · cases hv
  · rename_i b args argTypes
    have hall : args.toList.all ok = true := by
      simp [Op.operands, Call.operands] at hok
      simpa using hok
    have ha : VRs β (args.toList.map ρ) (args.map ρ').toList := by simpa using vrs_map hρ hall
    obtain ⟨e1, v', h1, h2⟩ := builtin_pure (P := P) (ty := type) (cc := args.map fun | .const _ => true | _ => false) H hs hc hv ha
    exact ⟨e1, v', by simp only [resolve, Sem.run_bind, Sem.run_pure, Result.andThen_ok, invoke]; exact h1, h2⟩
  · cases hv

theorem convS_low {a b : TypeId} {x : Operand} (hc : opClass C (.convert a b x) = 0) {s : St} {y : Value} : convS C s a b y = (convV C a b y).map fun v => (v, s) := by
  unfold convS
  split
  · rename_i h1 h2; simp [opClass, h1, h2] at hc
  · rename_i h1 h2; simp [opClass, h1, h2] at hc
  · rename_i h1 h2; simp [opClass, h1, h2] at hc
  · rfl

/-- an operation that does not look at memory -/
theorem eval_blind {ρ : Operand → Value} {o : Op} (hc : opClass C o = 0) {v : Value} (hv : evalOp C ρ s o = some (v, s')) (q : St) : evalOp C ρ q o = some (v, q) := by
  have map_ : ∀ {x : Option Value}, (x.map fun v => (v, s)) = some (v, s') → (x.map fun v => (v, q)) = some (v, q) := by
    intro x h
    rw [Option.map_eq_some_iff] at h ⊢
    obtain ⟨r, hr, e⟩ := h
    obtain ⟨rfl, _⟩ := Prod.mk.inj e
    exact ⟨r, hr, rfl⟩
  have some_ : ∀ {x : Value}, some (x, s) = some (v, s') → some (x, q) = some (v, q) := by
    intro x h
    obtain ⟨rfl, _⟩ := Prod.mk.inj (Option.some.inj h); rfl
  cases o with
  | move x => exact some_ hv
  | assign x => exact some_ hv
  | pick c a b =>
    simp only [evalOp] at hv ⊢
    split at hv
    · exact some_ hv
    · cases hv
  | build t ps => exact map_ hv
  | nilCheck x =>
    simp only [evalOp] at hv ⊢
    split at hv <;> first | exact some_ hv | cases hv
  | unOp op t x => exact map_ hv
  | makeInterface t x =>
    simp only [evalOp] at hv ⊢
    split at hv <;> first | exact some_ hv | cases hv
  | makeFunc fn a b =>
    simp only [evalOp] at hv ⊢
    split at hv <;> first | exact some_ hv | cases hv
  | slice t x l h m => exact map_ hv
  | fieldAddr t x i => exact map_ hv
  | field t x i => exact map_ hv
  | indexAddr t x i => exact map_ hv
  | index t x i => exact map_ hv
  | typeAssert x a t k => exact map_ hv
  | extract t i =>
    simp only [evalOp] at hv ⊢
    split at hv <;> first | exact map_ hv | cases hv
  | convert a b x =>
    simp only [evalOp] at hv ⊢
    rw [convS_low hc] at hv ⊢
    exact map_ hv
  | call c =>
    obtain ⟨callee, args, ts⟩ := c
    cases callee with
    | builtin b =>
      simp only [evalOp, builtinV] at hv ⊢
      split at hv
      · simp [opClass] at hc
      · simp [opClass] at hc
      · simp [opClass] at hc
      · simp [opClass] at hc
      · exact map_ hv
      · exact map_ hv
      · cases hv
    | _ => cases hv
  | _ => simp [opClass] at hc

/-- an operation that makes something new -/
theorem eval_fresh {ρ : Operand → Value} {o : Op} (hc : opClass C o = 1) {v : Value} (hv : evalOp C ρ s o = some (v, s')) : ∃ ob, s' = s.new ob ∧ ∀ q : St, q.n = s.n → evalOp C ρ q o = some (v, q.new ob) := by
  cases o with
  | alloc t =>
    simp only [evalOp] at hv ⊢
    split at hv
    · rename_i h
      obtain ⟨rfl, rfl⟩ := Prod.mk.inj (Option.some.inj hv)
      exact ⟨_, rfl, fun q hq => by simp only [hq]⟩
    · cases hv
  | box t x =>
    simp only [evalOp] at hv ⊢
    obtain ⟨rfl, rfl⟩ := Prod.mk.inj (Option.some.inj hv)
    exact ⟨_, rfl, fun q hq => by simp only [hq]⟩
  | makeMap t r =>
    simp only [evalOp] at hv ⊢
    split at hv
    · obtain ⟨rfl, rfl⟩ := Prod.mk.inj (Option.some.inj hv)
      exact ⟨_, rfl, fun q hq => by simp only [hq]⟩
    · split at hv
      · rename_i h
        obtain ⟨rfl, rfl⟩ := Prod.mk.inj (Option.some.inj hv)
        exact ⟨_, rfl, fun q hq => by simp only [hq]⟩
      · cases hv
    · cases hv
  | makeSlice t l c =>
    simp only [evalOp, makeSliceV] at hv ⊢
    split at hv
    · split at hv
      · rename_i h1 _ _ h2
        split at hv
        · rename_i h3
          obtain ⟨rfl, rfl⟩ := Prod.mk.inj (Option.some.inj hv)
          exact ⟨_, rfl, fun q hq => by rw [hq, if_pos h3]⟩
        · cases hv
      · cases hv
    · cases hv
  | buildSlice t n ps =>
    simp only [evalOp, buildSliceV] at hv ⊢
    split at hv
    · split at hv
      · split at hv
        · rename_i h1 _ _ h2 h3
          rw [Option.map_eq_some_iff] at hv
          obtain ⟨cs, h4, e⟩ := hv
          obtain ⟨rfl, rfl⟩ := Prod.mk.inj e
          exact ⟨_, rfl, fun q hq => by rw [hq, if_pos h3, h4]; rfl⟩
        · cases hv
      · cases hv
    · cases hv
  | call c =>
    obtain ⟨callee, args, ts⟩ := c
    cases callee with
    | builtin b => cases b <;> simp [opClass] at hc
    | _ => simp [opClass] at hc
  | convert a b x =>
    exfalso
    simp only [opClass] at hc
    split at hc <;> simp at hc
  | _ => simp [opClass] at hc

/-- an operation of these kinds is no call of a function -/
theorem oneOp_low {rc : Rec} {e : Env} {o : Op} (hc : opClass C o < 3) : oneOp C rc e s o = .ofOption (evalOp C e.eval s o) := by
  cases o with
  | call c =>
    obtain ⟨callee, args, ts⟩ := c
    cases callee with
    | builtin b => rfl
    | _ => simp [opClass] at hc
  | next a b => simp [opClass] at hc
  | _ => rfl

end
end Go.Ai
