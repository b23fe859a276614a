/- The interpreter: what holds of it. -/
import Derived.Test.YtgplkbfjlidinaaDoorAiRn
import Derived.Laws.Strings
import Derived.Test.YtgplkbfjlidinaaDoorAiEq
set_option linter.unusedVariables false
set_option linter.unusedSimpArgs false
set_option linter.unnecessarySimpa false
/-
  Contracts in bundles.
-/
namespace Go.Ai

mutual
theorem sub_clo {R : Nat → Option Nat → Nat → Prop} : ∀ {v : Value}, clo v = true → Sub R v v
  | .bool _, _ => .bool _
  | .int _ _, _ => .int _ _
  | .float _ _, _ => .float _ _
  | .complex _ _ _, _ => .complex _ _ _
  | .string _, _ => .string _
  | .pointer none, _ => .ptrNil
  | .pointer (some _), h => by simp [clo] at h
  | .slice none 0 0, _ => .sliceNil
  | .slice none (_ + 1) _, h => by simp [clo] at h
  | .slice none 0 (_ + 1), h => by simp [clo] at h
  | .slice (some _) _ _, h => by simp [clo] at h
  | .map none, _ => .mapNil
  | .map (some _), h => by simp [clo] at h
  | .chan c, _ => .chan c
  | .func _ _ _, h => by simp [clo] at h
  | .nilFunc, _ => .nilFunc
  | .iface _ _, h => .iface (sub_clo (by simpa [clo] using h))
  | .nilIface, _ => .nilIface
  | .agg ⟨l⟩, h => .agg (subs_clo (by simpa [clo, clo.cloA] using h))
  | .tuple ⟨l⟩, h => .tuple (subs_clo (by simpa [clo, clo.cloA] using h))
theorem subs_clo {R : Nat → Option Nat → Nat → Prop} : ∀ {l : List Value}, clo.cloL l = true → Subs R l l
  | [], _ => .nil
  | v :: l, h => by
    simp only [clo.cloL, Bool.and_eq_true] at h
    exact .cons (sub_clo h.1) (subs_clo h.2)
end

structure Con (P : Program) (G : Nat) where
  f : FuncId
  rel : List Value → St → Value → St → Prop
  ok : ∀ args s v s', rel args s v s' → SCF P G f args s fun v1 s1 => v1 = v ∧ s1 = s'
  grow : ∀ args s v s', rel args s v s' → s.WF → s'.WF ∧ Grow s s'
  det : ∀ args s v s' v1 s1, rel args s v s' → rel args s v1 s1 → v1 = v ∧ s1 = s'

section
variable {P : Program} {G : Nat}
def nodupB : List Nat → Bool
  | [] => true
  | x :: l => !(l.any (Nat.beq x)) && nodupB l
/-- a run in which these calls are answered -/
theorem rc_con {rc0 : Rec} (h0 : Sound P G rc0) (cs : List (Con P G)) (hn : nodupB (cs.map Con.f) = true) : ∃ rc, Sound P G rc ∧ ∀ c ∈ cs, ∀ args s v s', c.rel args s v s' → rc (.call c.f args) s = .ret (.val v, s') := by
  have huniq : ∀ (cs : List (Con P G)), nodupB (cs.map Con.f) = true → ∀ c ∈ cs, ∀ c' ∈ cs, c.f = c'.f → c = c' := by
    intro cs
    induction cs with
    | nil => intro _ c h; cases h
    | cons x l ih =>
      intro h c hc c' hc' e
      simp only [List.map_cons, nodupB, Bool.and_eq_true, Bool.not_eq_true', List.any_eq_false] at h
      have no : ∀ y ∈ l, x.f ≠ y.f := fun y hy he => by
        have := h.1 y.f (List.mem_map_of_mem hy)
        rw [he] at this
        exact this (Nat.beq_refl _)
      rcases List.mem_cons.1 hc with h1 | h1
      · rcases List.mem_cons.1 hc' with h2 | h2
        · rw [h1, h2]
        · exact absurd (h1 ▸ e) (no _ h2)
      · rcases List.mem_cons.1 hc' with h2 | h2
        · exact absurd (h2 ▸ e.symm) (no _ h1)
        · exact ih h.2 c h1 c' h2 e
  let Sp : Contract := fun f args s v s' => ∃ c ∈ cs, c.f = f ∧ c.rel args s v s'
  have hSp : SpecOk P G Sp := by
    refine ⟨?_, ?_⟩
    · rintro f args s v s' ⟨c, hc, rfl, h⟩
      exact c.ok _ _ _ _ h
    · rintro f args s v s' ⟨c, hc, rfl, h⟩ hw
      exact c.grow _ _ _ _ h hw
  refine ⟨over (cs.map Con.f) Sp rc0, sound_over hSp h0, fun c hc args s v s' h => ?_⟩
  obtain ⟨v1, s1, ⟨c1, hc1, e1, h1⟩, h2⟩ := over_hit (rc := rc0) (fs := cs.map Con.f) (S := Sp) (f := c.f) (by simpa using List.mem_map_of_mem hc) ⟨c, hc, rfl, h⟩
  obtain rfl := huniq cs hn c1 hc1 c hc e1
  obtain ⟨rfl, rfl⟩ := c1.det _ _ _ _ _ _ h h1
  exact h2

/-- a contract of a call that needs nothing of memory -/
theorem scf_pure0 {f : FuncId} {args : List Value} {s : St} {v : Value} (N : Nat) (hargs : Subs (idR 0) args args) (hv : Sub (idR 0) v v) (h : SC P G f args (St.empty 0) fun v1 s1 => v1 = v ∧ s1.n ≤ N) (hG : gl G = 0 := by rfl) : SCF P G f args s fun v1 s1 => v1 = v ∧ s1 = s := by
  intro hsw
  have hR : ∀ i sp j, idR 0 i sp j → j < 0 ∧ j = i := by rintro i sp j ⟨h, rfl⟩; exact ⟨h, rfl⟩
  refine sc_frame (fun _ _ => False) (G := G) (k := 0) (ρ := fun i => i) (s := s) (s0 := St.empty 0) (fit_id rfl (Nat.zero_le _) (wf_empty 0) (Nat.le_of_eq hG) (fun i hi => by omega) (fun i hi => by omega)) N (fun _ _ _ _ _ h => h.elim) (hargs.mono hR) h ?_ hsw
  rintro _ v0 s0' ⟨rfl, hn⟩ hw0' hg
  refine ⟨hn, _, v0, s, ⟨rfl, rfl⟩, hv.mono ?_, back_id (Nat.zero_le _) hsw (fun i hi => by omega) (fun i hi => by omega) (fun i hi => by omega), fun i hi => .inr fun _ => rfl⟩
  rintro i sp j ⟨h, rfl⟩
  exact .inl (if_pos h)

/-- what a function of data comes to -/
def Con.pure {α : Type} (f : FuncId) (A : α → List Value) (V : α → Value) (Pre : α → Prop) (inj : ∀ x y, A x = A y → x = y) (hA : ∀ x, clo.cloL (A x) = true) (hV : ∀ x, clo (V x) = true) (N : Nat)
    (h : ∀ x, Pre x → SC P G f (A x) (St.empty 0) fun v s' => v = V x ∧ s'.n ≤ N) (hG : gl G = 0 := by rfl) : Con P G where
  f := f
  rel args s v s' := s' = s ∧ ∃ x, Pre x ∧ args = A x ∧ v = V x
  ok := by
    rintro args s v s' ⟨rfl, x, hp, rfl, rfl⟩
    exact scf_pure0 N (subs_clo (hA x)) (sub_clo (hV x)) (h x hp) hG
  grow := by
    rintro args s v s' ⟨rfl, _⟩ hw
    exact ⟨hw, .refl _⟩
  det := by
    rintro args s v s' v1 s1 ⟨rfl, x, _, rfl, rfl⟩ ⟨rfl, y, _, e, rfl⟩
    obtain rfl := inj _ _ e
    exact ⟨rfl, rfl⟩
theorem con_pure {α : Type} {f : FuncId} {A : α → List Value} {V : α → Value} {Pre : α → Prop} {inj : ∀ x y, A x = A y → x = y} {hA : ∀ x, clo.cloL (A x) = true} {hV : ∀ x, clo (V x) = true} {N : Nat}
    {h : ∀ x, Pre x → SC P G f (A x) (St.empty 0) fun v s' => v = V x ∧ s'.n ≤ N} {hG : gl G = 0} (x : α) (hp : Pre x) (s : St) : (Con.pure f A V Pre inj hA hV N h hG).rel (A x) s (V x) s := ⟨rfl, x, hp, rfl, rfl⟩
/-- the same, of a result that is a row -/
theorem sc_ice0 {f : FuncId} {args : List Value} {N : Nat} {v2 : Value} {Q : Value → St → Prop} (h : SC P G f args (St.empty 0) Q) (hq : ∀ v s', Q v s' → FS 0 s' v v2 ∧ s'.n ≤ N) : SC P G f args (St.empty 0) fun v s' => v = v2 ∧ s'.n ≤ N := by
  refine sc_ice (k := 0) rfl h fun v s' hv => ?_
  obtain ⟨h1, h2⟩ := hq v s' hv
  exact ⟨v2, h1, (fun i hi => absurd hi (Nat.not_lt_zero i)), (fun i hi => absurd hi (Nat.not_lt_zero i)), rfl, h2⟩
theorem fs_clo {k : Nat} {s : St} {v : Value} (h : clo v = true) : FS k s v v := .same (sub_clo h)
end
end Go.Ai
/-
  Small lemmas that printed proofs use.
-/
namespace Go.Ai

section
variable {P : Program} {C : Cfg} {G : Nat} {rc : Rec} {e : Env} {s : St}
/-- an operation whose answer is told in other words -/
theorem al_eqv {v : Value} (v2 : Value) {ops : Array Oper} {o : Oper} {l : List Oper} {R : Env → St → Prop} (hw : Region.wanted o (yieldedV ops e) = true) (ho : oneOp C (fun _ _ => .fail) e s o.op = .ofOption (evalOp C e.eval s o.op))
    (hv : evalOp C e.eval s o.op = some (v, s)) (he : v = v2) (h : AllL C rc ops l (e.dst o.dst v2) s R) : AllL C rc ops (o :: l) e s R := al_opF hw ho (he ▸ hv) h
theorem ald_opF {ops : Array Oper} {i : Nat} {o : Oper} {l : List Oper} {L : Log} {s1 : St} {v : Value} {R : Env → St → Prop} (hw : Region.wanted o (yieldedV ops e) = true) (ho : oneOp C (fun _ _ => .fail) e s o.op = .ofOption (evalOp C e.eval s o.op))
    (hv : evalOp C e.eval s o.op = some (v, s1)) (hl : (drawLog C ops i o L e s v s1).isSome = true) (h : AllD C rc ops (i + 1) l (logOf (drawLog C ops i o L e s v s1)) (e.dst o.dst v) s1 R) : AllD C rc ops i (o :: l) L e s R :=
  ald_op _ hw hv ho (log_some hl) h
end

theorem get_ex {α : Type} {l : List α} {i : Nat} (h : i < l.length) : ∃ x, l[i]? = some x := ⟨l[i], List.getElem?_eq_getElem h⟩
theorem wrap64 {n : Int} (h : -(2 ^ 63 : Int) ≤ n ∧ n < 2 ^ 63) : IntKind.wrap .i64 n = n := by
  unfold IntKind.wrap
  simp [IntKind.bits, IntKind.signed]
  omega
theorem wrap_to {x : Int} {c : Nat} (h : x = ((c : Nat) : Int)) (h2 : c < 9223372036854775808) : IntKind.wrap .i64 x = ((c : Nat) : Int) := by
  rw [h, wrap64 (by omega)]
section
variable {α : Type} {f : α → List Value} {l : List α} {sz : Nat} {C : Cfg}
end

/-! ### memories thing by thing -/
def Selfs (k : Nat) (M : St) (j : Nat) : Prop := ∀ i, j ≤ i → i < k → ORel (idR k) (M.get i) (M.get i)
theorem all_none {k : Nat} {M : St} : Selfs k M k := fun i h1 h2 => by omega
theorem all_cons {k : Nat} {M : St} {j : Nat} {o : AObj} (hg : M.get j = some o) (ho : OSub (idR k) o o) (h : Selfs k M (j + 1)) : Selfs k M j := fun i h1 h2 => by
  by_cases e : i = j
  · subst e
    rw [hg]
    exact ho
  · exact h i (by omega) h2
theorem selfs {k : Nat} {M : St} (h : Selfs k M 0) : ∀ i, i < k → ORel (idR k) (M.get i) (M.get i) := fun i hi => h i (Nat.zero_le _) hi
theorem mem_all {k : Nat} {s M : St} (h : (List.range k).map s.get = (List.range k).map M.get) : ∀ i, i < k → s.get i = M.get i := fun i hi => by
  have h1 : ((List.range k).map s.get)[i]? = ((List.range k).map M.get)[i]? := by rw [h]
  rw [List.getElem?_map, List.getElem?_map, List.getElem?_range hi] at h1
  exact Option.some.inj h1

section
variable {P : Program} {G : Nat} {fid : FuncId} {c : Code} {s : St} {Q : Out → Env → St → Prop}
end
theorem fs_to {k : Nat} {s : St} {v v2 v3 : Value} (h : FS k s v v2) (e : v2 = v3) : FS k s v v3 := e ▸ h
theorem and_l {a b : Bool} (h : (a && b) = true) : a = true := by cases a; exact h; rfl
theorem and_r {a b : Bool} (h : (a && b) = true) : b = true := by cases a; cases h; exact h
theorem and_i {a b : Bool} (h : a = true) (h' : b = true) : (a && b) = true := by rw [h, h']; rfl
theorem not_t {a : Bool} (h : (!a) = true) : a = false := by cases a; rfl; cases h
theorem not_f {a : Bool} (h : (!a) = false) : a = true := by cases a; cases h; rfl
end Go.Ai
/-
  Contracts of calls that look at things, or change them.
-/
namespace Go.Ai

def rhoL (l : List Nat) (a : Nat) : Nat := l.getD a 0
def setAll (ρ : Nat → Nat) (M : Nat → AObj) : List Nat → St → St
  | [], s => s
  | a :: l, s => setAll ρ M l (s.set (ρ a) (M a))
theorem setAll_get {ρ : Nat → Nat} {M : Nat → AObj} {k : Nat} (inj : ∀ a b, a < k → b < k → ρ a = ρ b → a = b) : ∀ {l : List Nat} {s : St}, (∀ a ∈ l, a < k) → ∀ a, a < k → (setAll ρ M l s).get (ρ a) = if a ∈ l then some (M a) else s.get (ρ a)
  | [], s, _, a, _ => by simp [setAll]
  | b :: l, s, h, a, ha => by
    unfold setAll
    rw [setAll_get inj (fun x hx => h x (List.mem_cons_of_mem _ hx)) a ha, St.get_set]
    by_cases h1 : a ∈ l
    · rw [if_pos h1, if_pos (List.mem_cons_of_mem _ h1)]
    · rw [if_neg h1]
      by_cases h2 : a = b
      · subst h2
        rw [if_pos rfl, if_pos (List.mem_cons_self ..)]
      · rw [if_neg (fun e => h2 (inj a b ha (h b (List.mem_cons_self ..)) e)), if_neg]
        simp [h1, h2]
theorem setAll_far {ρ : Nat → Nat} {M : Nat → AObj} {j : Nat} : ∀ {l : List Nat} {s : St}, (∀ a ∈ l, ρ a ≠ j) → (setAll ρ M l s).get j = s.get j
  | [], s, _ => rfl
  | b :: l, s, h => by
    unfold setAll
    rw [setAll_far (fun x hx => h x (List.mem_cons_of_mem _ hx)), St.get_set, if_neg (fun e => h b (List.mem_cons_self ..) e.symm)]
theorem setAll_n {ρ : Nat → Nat} {M : Nat → AObj} : ∀ {l : List Nat} {s : St}, (setAll ρ M l s).n = s.n
  | [], s => rfl
  | b :: l, s => by unfold setAll; rw [setAll_n, St.n_set]

/-- a contract in a small memory of k things -/
structure Small (P : Program) (G : Nat) (f : FuncId) (α : Type) where
  k : Nat
  A : α → (Nat → Nat) → List Value
  M : α → (Nat → Nat) → Nat → AObj
  M1 : α → (Nat → Nat) → Nat → AObj
  V : α → (Nat → Nat) → Value
  /-- the same, as the code leaves it (nil where a token is told of) -/
  M1s : α → Nat → AObj := fun x a => M1 x id a
  Vs : α → Value := fun x => V x id
  Pre : α → Prop
  ch : List Nat
  N : Nat
  s0 : α → St
  hch : ∀ a ∈ ch, a < k
  hsame : ∀ x ρ a, a < k → a ∉ ch → M1 x ρ a = M x ρ a
  hG : gl G = 0
  hn : ∀ x, (s0 x).n = k
  hwf : ∀ x, (s0 x).WF
  hget : ∀ x a, a < k → (s0 x).get a = some (M x id a)
  noloop : ∀ x ρ a, a < k → ¬ isLoop (some (M x ρ a))
  inA : ∀ x ρ (R : Nat → Option Nat → Nat → Prop), (∀ a sp, a < k → R (ρ a) sp a) → Subs R (A x ρ) (A x id)
  inM : ∀ x ρ (R : Nat → Option Nat → Nat → Prop), (∀ a sp, a < k → R (ρ a) sp a) → ∀ a, a < k → OSub R (M x ρ a) (M x id a)
  outM : ∀ x ρ (R : Nat → Option Nat → Nat → Prop), (∀ a sp, a < k → R a sp (ρ a)) → ∀ a, a < k → OSub R (M1s x a) (M1 x ρ a)
  outV : ∀ x ρ (R : Nat → Option Nat → Nat → Prop), (∀ a sp, a < k → R a sp (ρ a)) → Sub R (Vs x) (V x ρ)
  dom : ∀ x ρ a, a ∈ ch → (∀ (β : Bij) y, VRs β (A x ρ) y → β.dom (ρ a)) ∨ (M1s x a = M x id a → M1 x ρ a = M x ρ a)
  sc : ∀ x, Pre x → SC P G f (A x id) (s0 x) fun v s' => v = Vs x ∧ s'.n ≤ N ∧ ∀ a, a < k → s'.get a = some (M1s x a)
  det : ∀ x ρ y σ (s : St), A x ρ = A y σ → (∀ a, a < k → s.get (ρ a) = some (M x ρ a)) → (∀ a, a < k → s.get (σ a) = some (M y σ a)) → x = y ∧ ∀ a, a < k → ρ a = σ a
  par : ∀ x ρ σ, (∀ a, a < k → ρ a = σ a) → V x ρ = V x σ ∧ ∀ a, a < k → M1 x ρ a = M1 x σ a

section
variable {P : Program} {G : Nat} {f : FuncId} {α : Type}
theorem setAll_par {ρ σ : Nat → Nat} {M N : Nat → AObj} {k : Nat} (h : ∀ a, a < k → ρ a = σ a) (hm : ∀ a, a < k → M a = N a) : ∀ {l : List Nat} {s : St}, (∀ a ∈ l, a < k) → setAll ρ M l s = setAll σ N l s
  | [], _, _ => rfl
  | b :: l, s, hl => by
    unfold setAll
    rw [h b (hl b (List.mem_cons_self ..)), hm b (hl b (List.mem_cons_self ..)), setAll_par h hm fun a ha => hl a (List.mem_cons_of_mem _ ha)]

def Small.rel (S : Small P G f α) (args : List Value) (s : St) (v : Value) (s' : St) : Prop := ∃ x ρ, S.Pre x ∧ (∀ a b, a < S.k → b < S.k → ρ a = ρ b → a = b) ∧ args = S.A x ρ ∧ (∀ a, a < S.k → s.get (ρ a) = some (S.M x ρ a)) ∧ v = S.V x ρ ∧ s' = setAll ρ (S.M1 x ρ) S.ch s

theorem Small.wf (S : Small P G f α) {x : α} {ρ : Nat → Nat} {s : St} (hg : ∀ a, a < S.k → s.get (ρ a) = some (S.M x ρ a)) (hw : s.WF) : (setAll ρ (S.M1 x ρ) S.ch s).WF := by
  have : ∀ (l : List Nat) (s : St), (∀ a ∈ l, ρ a < s.n) → s.WF → (setAll ρ (S.M1 x ρ) l s).WF := by
    intro l
    induction l with
    | nil => intro s _ h; exact h
    | cons b l ih =>
      intro s hl h
      refine ih _ (fun a ha => ?_) ?_
      · rw [St.n_set]; exact hl a (List.mem_cons_of_mem _ ha)
      · intro i hi
        rw [St.n_set] at hi
        rw [St.get_set, if_neg (by have := hl b (List.mem_cons_self ..); omega)]
        exact h i hi
  exact this _ _ (fun a ha => hw.lt (hg a (S.hch a ha))) hw

theorem Small.grow (S : Small P G f α) {x : α} {ρ : Nat → Nat} {s : St} (inj : ∀ a b, a < S.k → b < S.k → ρ a = ρ b → a = b) (hg : ∀ a, a < S.k → s.get (ρ a) = some (S.M x ρ a)) : Grow s (setAll ρ (S.M1 x ρ) S.ch s) := by
  refine ⟨by rw [setAll_n]; exact Nat.le_refl _, fun l hl => ?_⟩
  by_cases h : ∃ a, a < S.k ∧ ρ a = l
  · obtain ⟨a, ha, rfl⟩ := h
    rw [hg a ha] at hl
    exact absurd hl (S.noloop x ρ a ha)
  · rw [setAll_far (fun a ha e => h ⟨a, S.hch a ha, e⟩)]
    exact hl

def Small.con (S : Small P G f α) : Con P G where
  f := f
  rel := S.rel
  ok := by
    rintro args s v s' ⟨x, ρ, hp, inj, rfl, hg, rfl, rfl⟩ hsw
    have F : Fit G S.k ρ s (S.s0 x) := ⟨S.hn x, fun a b h1 h2 e => .inl (inj a b h1 h2 e), fun a h1 => hsw.lt (hg a h1), fun a ha => by
      rw [hg a ha, S.hget x a ha]
      exact S.inM x ρ _ (fun a sp h => ⟨h, rfl⟩) a ha, fun g hg => by rw [S.hG] at hg; omega, S.hwf x⟩
    refine sc_frame (fun _ _ => False) F S.N (fun _ _ _ _ _ h => h.elim) (S.inA x ρ _ fun a sp h => ⟨h, rfl⟩) (S.sc x hp) ?_ hsw
    rintro _ v0 s0' ⟨rfl, hN, h1⟩ hw0 hgr
    have hR : ∀ a sp, a < S.k → Ways S.k ρ (fun j => if j < S.k then some (ρ j) else none) (fun _ _ => False) a sp (ρ a) := fun a sp ha => .inl (if_pos ha)
    refine ⟨hN, fun j => if j < S.k then some (ρ j) else none, _, _, ⟨rfl, rfl⟩, S.outV x ρ _ hR, ?_, fun a ha => ?_⟩
    · refine ⟨fun j hj => .inl (by rw [if_pos hj]), (fun j j' hj _ _ h => by rw [if_pos hj] at h; cases h), fun j j' hj h => ?_, fun j j' y h h' => ?_, fun j y h => ?_, fun j hj hn => ?_, by rw [setAll_n]; exact Nat.le_refl _, S.wf hg hsw, S.grow inj hg⟩
      · rw [if_neg (by omega)] at h; cases h
      · by_cases e : j < S.k
        · by_cases e' : j' < S.k
          · rw [if_pos e] at h
            rw [if_pos e'] at h'
            exact inj j j' e e' ((Option.some.inj h).trans (Option.some.inj h').symm)
          · rw [if_neg e'] at h'; cases h'
        · rw [if_neg e] at h; cases h
      · by_cases e : j < S.k
        · rw [if_pos e] at h
          obtain rfl := Option.some.inj h
          rw [h1 j e, setAll_get inj S.hch j e]
          have := S.outM x ρ _ hR j e
          by_cases hc : j ∈ S.ch
          · rw [if_pos hc]; exact this
          · rw [if_neg hc, hg j e, ← S.hsame x ρ j e hc]; exact this
        · rw [if_neg e] at h; cases h
      · exact setAll_far fun a ha => hn a (S.hch a ha)
    · by_cases hc : a ∈ S.ch
      · rcases S.dom x ρ a hc with h | h
        · exact .inl h
        · refine .inr fun e => ?_
          rw [h1 a ha, S.hget x a ha] at e
          rw [setAll_get inj S.hch a ha, if_pos hc, hg a ha, h (Option.some.inj e)]
      · exact .inr fun _ => by rw [setAll_get inj S.hch a ha, if_neg hc]
  grow := by
    rintro args s v s' ⟨x, ρ, hp, inj, rfl, hg, rfl, rfl⟩ hw
    exact ⟨S.wf hg hw, S.grow inj hg⟩
  det := by
    rintro args s v s' v1 s1 ⟨x, ρ, hp, inj, rfl, hg, rfl, rfl⟩ ⟨y, σ, _, _, e, hg', rfl, rfl⟩
    obtain ⟨rfl, hρ⟩ := S.det x ρ y σ s e hg hg'
    obtain ⟨e1, e2⟩ := S.par x ρ σ hρ
    exact ⟨e1.symm, (setAll_par hρ e2 S.hch).symm⟩

theorem Small.at_ (S : Small P G f α) (x : α) (ids : List Nat) (s s' : St) {args : List Value} {v : Value} (hp : S.Pre x) (hl : ids.length = S.k) (hn : nodupB ids = true) (ha : args = S.A x (rhoL ids)) (hg : ∀ a, a < S.k → s.get (rhoL ids a) = some (S.M x (rhoL ids) a)) (hv : v = S.V x (rhoL ids)) (hs : s' = setAll (rhoL ids) (S.M1 x (rhoL ids)) S.ch s) :
    S.con.rel args s v s' := by
  refine ⟨x, rhoL ids, hp, ?_, ha, hg, hv, hs⟩
  have key : ∀ (l : List Nat), nodupB l = true → ∀ a b, a < l.length → b < l.length → rhoL l a = rhoL l b → a = b := by
    intro l
    induction l with
    | nil => intro _ a b h; cases h
    | cons y l ih =>
      intro h a b h1 h2 e
      simp only [nodupB, Bool.and_eq_true, Bool.not_eq_true', List.any_eq_false] at h
      have no : ∀ c, c < l.length → y ≠ rhoL l c := fun c hc he => by
        have : rhoL l c ∈ l := by
          unfold rhoL
          rw [List.getD_eq_getElem?_getD, List.getElem?_eq_getElem hc]
          exact List.getElem_mem hc
        have := h.1 _ this
        rw [← he] at this
        exact this (Nat.beq_refl _)
      cases a with
      | zero =>
        cases b with
        | zero => rfl
        | succ b => exact absurd e (no b (by simpa using h2))
      | succ a =>
        cases b with
        | zero => exact absurd e.symm (no a (by simpa using h1))
        | succ b => rw [ih h.2 a b (by simpa using h1) (by simpa using h2) e]
  rw [← hl]
  exact key ids hn
end
end Go.Ai
namespace Go.Ai
def objL (l : List AObj) (a : Nat) : AObj := l.getD a .dead
theorem all0 {p : Nat → Prop} : ∀ a, a < 0 → p a := fun a h => absurd h (Nat.not_lt_zero a)
theorem all1 {p : Nat → Prop} (h0 : p 0) : ∀ a, a < 1 → p a := fun a h => by
  obtain rfl : a = 0 := (by omega)
  exact h0
/-- searches -/
def NoHit {α : Type} (p : α → Prop) (l : List α) (i : Nat) : Prop := ∀ j x, j < i → l[j]? = some x → ¬ p x
theorem NoHit.zero {α : Type} {p : α → Prop} {l : List α} : NoHit p l 0 := fun j x h => absurd h (Nat.not_lt_zero j)
theorem NoHit.succ {α : Type} {p : α → Prop} {l : List α} {i : Nat} {x : α} (h : NoHit p l i) (hx : l[i]? = some x) (hp : ¬ p x) : NoHit p l (i + 1) := fun j y hj hy => by
  by_cases e : j = i
  · subst e
    rw [hx] at hy
    obtain rfl := Option.some.inj hy
    exact hp
  · exact h j y (by omega) hy
theorem NoHit.none {α : Type} {p : α → Prop} {l : List α} {i : Nat} (h : NoHit p l i) (hi : ¬ i < l.length) : ¬ ∃ x ∈ l, p x := by
  rintro ⟨x, hx, hp⟩
  obtain ⟨j, hj, rfl⟩ := List.getElem_of_mem hx
  exact h j _ (by omega) (List.getElem?_eq_getElem hj) hp
/-- a proposition as a bit -/
noncomputable def tf (p : Prop) : Bool := @decide p (Classical.propDecidable p)
theorem tf_t {p : Prop} (h : tf p = true) : p := @of_decide_eq_true p (Classical.propDecidable p) h
theorem tf_f {p : Prop} (h : tf p = false) : ¬ p := @of_decide_eq_false p (Classical.propDecidable p) h
theorem tf_true {p : Prop} (h : p) : tf p = true := @decide_eq_true p (Classical.propDecidable p) h
theorem tf_false {p : Prop} (h : ¬ p) : tf p = false := @decide_eq_false p (Classical.propDecidable p) h
/-- searches by place -/
def NoI (p : Nat → Prop) (i : Nat) : Prop := ∀ j, j < i → ¬ p j
theorem NoI.zero {p : Nat → Prop} : NoI p 0 := fun j h => absurd h (Nat.not_lt_zero j)
theorem NoI.succ {p : Nat → Prop} {i : Nat} (h : NoI p i) (hp : ¬ p i) : NoI p (i + 1) := fun j hj => by
  by_cases e : j = i
  · subst e; exact hp
  · exact h j (by omega)
theorem NoI.none {p : Nat → Prop} {i n : Nat} (h : NoI p i) (hi : ¬ i < n) : ¬ ∃ j, j < n ∧ p j := fun ⟨j, h1, h2⟩ => h j (by omega) h2
theorem hit {α : Type} {p : α → Prop} {l : List α} {i : Nat} {x : α} (hx : l[i]? = some x) (hp : p x) : ∃ x ∈ l, p x := ⟨x, List.mem_of_getElem? hx, hp⟩
theorem load_rowL1 {α : Type} {f : α → List Value} {l : List α} {sz : Nat} {C : Cfg} {s : St} {t : TypeId} {o : Nat} (ht : oneTy C t = true) (hf : ∀ x, (f x).length = sz) {id i : Nat} {x : α} {v : Value} (hg : s.get id = some (rowL f l)) (hi : l[i]? = some x) (hv : (f x)[o]? = some v) : loadV C s t (.pointer (some ⟨id, i * sz + o, some (l.length * sz)⟩)) = some v := by
  have hl := (List.getElem?_eq_some_iff.1 hi).1
  have ho : o < sz := by have := (List.getElem?_eq_some_iff.1 hv).1; rwa [hf] at this
  have hm := Nat.mul_le_mul_right sz (show i + 1 ≤ l.length from hl)
  rw [Nat.succ_mul] at hm
  have hlen := flatL_len (l := l) hf
  have h1 : ((flatL f l).drop (i * sz + o)).take 1 = [v] := by
    rw [flatL_sub hf hi (by omega)]
    rw [List.drop_eq_getElem_cons (by rw [hf]; exact ho)]
    rw [List.getElem?_eq_getElem (by rw [hf]; exact ho)] at hv
    rw [Option.some.inj hv]
    rfl
  unfold oneTy at ht
  split at ht
  · rename_i ty hty
    have ht : TypeDesc.agg ty.desc = false := by simpa using ht
    unfold loadV
    rw [hty]
    simp only [ht, Bool.false_eq_true, if_false, St.cellsAt, hg, rowL]
    rw [if_pos ⟨Nat.zero_le _, by rw [hlen]; exact Nat.le_refl _, by omega⟩, h1]
  · cases ht
theorem slL_iff {i j sz n m : Nat} : slL i sz n = slL j sz m ↔ i = j ∧ n = m := by
  simp only [slL, Value.slice.injEq, Option.some.injEq, Addr.mk.injEq]
  constructor
  · rintro ⟨⟨h, _⟩, h2, _⟩; exact ⟨h, h2⟩
  · rintro ⟨rfl, rfl⟩; simp
theorem injA : (∀ {α : Type} (a : α) (s : List α) (b : α) (t : List α), (a :: s = b :: t) = (a = b ∧ s = t)) ∧ (∀ p : Prop, (p ∧ True) = p) ∧ (∀ p : Prop, (True ∧ p) = p) ∧ (∀ m n : Nat, ((m : Int) = (n : Int)) ↔ m = n) ∧ (∀ a b : UInt8, a.toNat = b.toNat ↔ a = b) ∧
    (∀ k x l y, (Value.int k x = Value.int l y) = (k = l ∧ x = y)) ∧ (∀ a b, (Value.bool a = Value.bool b) = (a = b)) ∧ (∀ a b, (Value.string a = Value.string b) = (a = b)) ∧ (∀ a b, (Value.agg a = Value.agg b) = (a = b)) ∧ (∀ (a b : List Value), (Array.mk a = Array.mk b) = (a = b)) :=
  ⟨List.cons.injEq, and_true, true_and, fun _ _ => Int.natCast_inj, fun _ _ => UInt8.toNat_inj, Value.int.injEq, Value.bool.injEq, Value.string.injEq, Value.agg.injEq, Array.mk.injEq⟩
end Go.Ai
/-
  Contracts of calls that hand back new things; what is handed back, frozen, beside things that are changed; '== nil' of tokens.
-/
namespace Go.Ai

section
variable {P : Program} {C : Cfg} {G : Nat} {rc : Rec} {e : Env} {s : St}
end
/-! ### new things -/
def newAll (M : Nat → AObj) : Nat → Nat → St → St
  | _, 0, s => s
  | a, m + 1, s => newAll M (a + 1) m (s.new (M a))
theorem newAll_n {M : Nat → AObj} : ∀ {m a : Nat} {s : St}, (newAll M a m s).n = s.n + m
  | 0, _, _ => rfl
  | m + 1, a, s => by unfold newAll; rw [newAll_n, St.n_new]; omega
theorem newAll_old {M : Nat → AObj} {j : Nat} : ∀ {m a : Nat} {s : St}, j < s.n → (newAll M a m s).get j = s.get j
  | 0, _, _, _ => rfl
  | m + 1, a, s, h => by
    unfold newAll
    rw [newAll_old (by rw [St.n_new]; omega), St.get_new, if_neg (by omega)]
theorem newAll_get {M : Nat → AObj} {j : Nat} : ∀ {m a : Nat} {s : St}, j < m → (newAll M a m s).get (s.n + j) = some (M (a + j))
  | 0, _, _, h => absurd h (Nat.not_lt_zero _)
  | m + 1, a, s, h => by
    unfold newAll
    cases j with
    | zero =>
      rw [newAll_old (by rw [St.n_new]; omega), St.get_new, if_pos (Nat.add_zero _)]
      rfl
    | succ j =>
      have := newAll_get (M := M) (j := j) (m := m) (a := a + 1) (s := s.new (M a)) (by omega)
      rw [St.n_new] at this
      rw [show s.n + (j + 1) = s.n + 1 + j from by omega, this, show a + (j + 1) = a + 1 + j from by omega]
theorem newAll_wf {M : Nat → AObj} : ∀ {m a : Nat} {s : St}, s.WF → (newAll M a m s).WF
  | 0, _, _, h => h
  | m + 1, a, s, h => by unfold newAll; exact newAll_wf (h.new _)
theorem newAll_grow {M : Nat → AObj} : ∀ {m a : Nat} {s : St}, s.WF → Grow s (newAll M a m s)
  | 0, _, _, _ => .refl _
  | m + 1, a, s, h => by unfold newAll; exact (Grow.new s h _).trans (newAll_grow (h.new _))
theorem newAll_par {M N : Nat → AObj} : ∀ {m a : Nat} {s : St}, (∀ b, a ≤ b → b < a + m → M b = N b) → newAll M a m s = newAll N a m s
  | 0, _, _, _ => rfl
  | m + 1, a, s, h => by
    unfold newAll
    rw [h a (Nat.le_refl _) (by omega), newAll_par fun b h1 h2 => h b (by omega) (by omega)]

/-- a contract in a small memory of k things, with m new ones -/
structure SmallN (P : Program) (G : Nat) (f : FuncId) (α : Type) where
  k : Nat
  m : Nat
  A : α → (Nat → Nat) → List Value
  M : α → (Nat → Nat) → Nat → AObj
  M1 : α → (Nat → Nat) → Nat → AObj
  V : α → (Nat → Nat) → Value
  Pre : α → Prop
  ch : List Nat
  N : Nat
  s0 : α → St
  hch : ∀ a ∈ ch, a < k
  hsame : ∀ x ρ a, a < k → a ∉ ch → M1 x ρ a = M x ρ a
  hG : gl G = 0
  hn : ∀ x, (s0 x).n = k
  hwf : ∀ x, (s0 x).WF
  hget : ∀ x a, a < k → (s0 x).get a = some (M x id a)
  noloop : ∀ x ρ a, a < k → ¬ isLoop (some (M x ρ a))
  inA : ∀ x ρ (R : Nat → Option Nat → Nat → Prop), (∀ a sp, a < k → R (ρ a) sp a) → Subs R (A x ρ) (A x id)
  inM : ∀ x ρ (R : Nat → Option Nat → Nat → Prop), (∀ a sp, a < k → R (ρ a) sp a) → ∀ a, a < k → OSub R (M x ρ a) (M x id a)
  outM : ∀ x σ ρ (R : Nat → Option Nat → Nat → Prop), (∀ a sp, a < k + m → R (σ a) sp (ρ a)) → ∀ a, a < k + m → OSub R (M1 x σ a) (M1 x ρ a)
  outV : ∀ x σ ρ (R : Nat → Option Nat → Nat → Prop), (∀ a sp, a < k + m → R (σ a) sp (ρ a)) → Sub R (V x σ) (V x ρ)
  dom : ∀ x ρ a, a ∈ ch → (∀ (β : Bij) y, VRs β (A x ρ) y → β.dom (ρ a)) ∨ (∀ σ, (∀ a, a < k → σ a = a) → M1 x σ a = M x id a → M1 x ρ a = M x ρ a)
  sc : ∀ x, Pre x → SC P G f (A x id) (s0 x) fun v s' => ∃ σ : Nat → Nat, (∀ a, a < k → σ a = a) ∧ (∀ a, k ≤ a → a < k + m → k ≤ σ a ∧ σ a < s'.n) ∧ (∀ a b, a < k + m → b < k + m → σ a = σ b → a = b) ∧ v = V x σ ∧ s'.n ≤ N ∧ ∀ a, a < k + m → s'.get (σ a) = some (M1 x σ a)
  det : ∀ x ρ y σ (s : St), A x ρ = A y σ → (∀ a, a < k → s.get (ρ a) = some (M x ρ a)) → (∀ a, a < k → s.get (σ a) = some (M y σ a)) → x = y ∧ ∀ a, a < k → ρ a = σ a
  par : ∀ x ρ σ, (∀ a, a < k + m → ρ a = σ a) → V x ρ = V x σ ∧ ∀ a, a < k + m → M1 x ρ a = M1 x σ a

section
variable {P : Program} {G : Nat} {f : FuncId} {α : Type}
def SmallN.rel (S : SmallN P G f α) (args : List Value) (s : St) (v : Value) (s' : St) : Prop :=
  ∃ x ρ, S.Pre x ∧ (∀ a b, a < S.k → b < S.k → ρ a = ρ b → a = b) ∧ args = S.A x ρ ∧ (∀ a, a < S.k → s.get (ρ a) = some (S.M x ρ a)) ∧ (∀ a, S.k ≤ a → a < S.k + S.m → ρ a = s.n + (a - S.k)) ∧ v = S.V x ρ ∧ s' = newAll (S.M1 x ρ) S.k S.m (setAll ρ (S.M1 x ρ) S.ch s)
theorem setAll_wf {ρ : Nat → Nat} {M : Nat → AObj} : ∀ (l : List Nat) (s : St), (∀ a ∈ l, ρ a < s.n) → s.WF → (setAll ρ M l s).WF
  | [], s, _, h => h
  | b :: l, s, hl, h => by
    refine setAll_wf l _ (fun a ha => ?_) ?_
    · rw [St.n_set]; exact hl a (List.mem_cons_of_mem _ ha)
    · intro i hi
      rw [St.n_set] at hi
      rw [St.get_set, if_neg (by have := hl b (List.mem_cons_self ..); omega)]
      exact h i hi
theorem SmallN.grow1 (S : SmallN P G f α) {x : α} {ρ : Nat → Nat} {s : St} (hg : ∀ a, a < S.k → s.get (ρ a) = some (S.M x ρ a)) : Grow s (setAll ρ (S.M1 x ρ) S.ch s) := by
  refine ⟨by rw [setAll_n]; exact Nat.le_refl _, fun l hl => ?_⟩
  by_cases h : ∃ a, a < S.k ∧ ρ a = l
  · obtain ⟨a, ha, rfl⟩ := h
    rw [hg a ha] at hl
    exact absurd hl (S.noloop x ρ a ha)
  · rw [setAll_far (fun a ha e => h ⟨a, S.hch a ha, e⟩)]
    exact hl
open Classical in
noncomputable def SmallN.con (S : SmallN P G f α) : Con P G where
  f := f
  rel := S.rel
  ok := by
    rintro args s v s' ⟨x, ρ, hp, inj, rfl, hg, hnew, rfl, rfl⟩ hsw
    have hlt : ∀ a, a < S.k → ρ a < s.n := fun a ha => hsw.lt (hg a ha)
    have injA : ∀ a b, a < S.k + S.m → b < S.k + S.m → ρ a = ρ b → a = b := fun a b h1 h2 e => by
      by_cases ha : a < S.k <;> by_cases hb : b < S.k
      · exact inj a b ha hb e
      · have := hlt a ha; rw [hnew b (by omega) h2] at e; omega
      · have := hlt b hb; rw [hnew a (by omega) h1] at e; omega
      · rw [hnew a (by omega) h1, hnew b (by omega) h2] at e; omega
    have F : Fit G S.k ρ s (S.s0 x) := ⟨S.hn x, fun a b h1 h2 e => .inl (inj a b h1 h2 e), fun a h1 => hlt a h1, fun a ha => by
      rw [hg a ha, S.hget x a ha]
      exact S.inM x ρ _ (fun a sp h => ⟨h, rfl⟩) a ha, fun g hg => by rw [S.hG] at hg; omega, S.hwf x⟩
    refine sc_frame (fun _ _ => False) F S.N (fun _ _ _ _ _ h => h.elim) (S.inA x ρ _ fun a sp h => ⟨h, rfl⟩) (S.sc x hp) ?_ hsw
    rintro _ v0 s0' ⟨σ, s1, s2, s3, rfl, hN, h1⟩ hw0 hgr
    let τ : Nat → Option Nat := fun j => if h : ∃ a, a < S.k + S.m ∧ σ a = j then some (ρ h.choose) else none
    have hτ : ∀ a, a < S.k + S.m → τ (σ a) = some (ρ a) := fun a ha => by
      have h : ∃ b, b < S.k + S.m ∧ σ b = σ a := ⟨a, ha, rfl⟩
      show (if h : ∃ b, b < S.k + S.m ∧ σ b = σ a then some (ρ h.choose) else none) = _
      rw [dif_pos h, s3 _ _ h.choose_spec.1 ha h.choose_spec.2]
    have hτi : ∀ j y, τ j = some y → ∃ a, a < S.k + S.m ∧ σ a = j ∧ y = ρ a := fun j y h => by
      by_cases hx : ∃ a, a < S.k + S.m ∧ σ a = j
      · obtain ⟨a, ha, rfl⟩ := hx
        rw [hτ a ha] at h
        exact ⟨a, ha, rfl, (Option.some.inj h).symm⟩
      · have h : (if h : ∃ a, a < S.k + S.m ∧ σ a = j then some (ρ h.choose) else none) = some y := h
        rw [dif_neg hx] at h
        cases h
    have hR : ∀ a sp, a < S.k + S.m → Ways S.k ρ τ (fun _ _ => False) (σ a) sp (ρ a) := fun a sp ha => .inl (hτ a ha)
    have hold : ∀ i, i < S.k → τ i = some (ρ i) := fun i hi => by rw [← s1 i hi, hτ i (by omega), s1 i hi]
    have hsn : (setAll ρ (S.M1 x ρ) S.ch s).n = s.n := setAll_n
    have hbig : ∀ a, a < S.k + S.m → (newAll (S.M1 x ρ) S.k S.m (setAll ρ (S.M1 x ρ) S.ch s)).get (ρ a) = some (S.M1 x ρ a) := fun a ha => by
      by_cases hk : a < S.k
      · rw [newAll_old (by rw [hsn]; exact hlt a hk), setAll_get inj S.hch a hk]
        by_cases hc : a ∈ S.ch
        · rw [if_pos hc]
        · rw [if_neg hc, hg a hk, S.hsame x ρ a hk hc]
      · have := newAll_get (M := S.M1 x ρ) (a := S.k) (m := S.m) (j := a - S.k) (s := setAll ρ (S.M1 x ρ) S.ch s) (by omega)
        rw [hsn] at this
        rw [hnew a (by omega) ha, this, show S.k + (a - S.k) = a from by omega]
    have hwf1 : (setAll ρ (S.M1 x ρ) S.ch s).WF := setAll_wf _ _ (fun a ha => hlt a (S.hch a ha)) hsw
    refine ⟨hN, τ, _, _, ⟨rfl, rfl⟩, S.outV x σ ρ _ hR, ?_, fun a ha => ?_⟩
    · refine ⟨fun j hj => .inl (hold j hj), (fun j j' hj _ _ h => by rw [hold j hj] at h; cases h), fun j y hj h => ?_, fun j j' y h h' => ?_, fun j y h => ?_, fun j hj hn => ?_, by rw [newAll_n, hsn]; omega, newAll_wf hwf1, (S.grow1 hg).trans (newAll_grow hwf1)⟩
      · obtain ⟨a, ha, rfl, rfl⟩ := hτi j y h
        have hk : ¬ a < S.k := fun q => by rw [s1 a q] at hj; omega
        have := s2 a (by omega) ha
        rw [newAll_n, hsn, hnew a (by omega) ha]
        omega
      · obtain ⟨a, ha, rfl, rfl⟩ := hτi j y h
        obtain ⟨b, hb, rfl, e⟩ := hτi j' _ h'
        rw [injA a b ha hb e]
      · obtain ⟨a, ha, rfl, rfl⟩ := hτi j y h
        rw [h1 a ha, hbig a ha]
        exact S.outM x σ ρ _ hR a ha
      · rw [newAll_old (by rw [hsn]; exact hj)]
        exact setAll_far fun a ha => hn a (S.hch a ha)
    · by_cases hc : a ∈ S.ch
      · rcases S.dom x ρ a hc with h | h
        · exact .inl h
        · refine .inr fun e => ?_
          have := h1 a (by omega)
          rw [s1 a ha] at this
          rw [this, S.hget x a ha] at e
          rw [hbig a (by omega), hg a ha, h σ s1 (Option.some.inj e)]
      · exact .inr fun _ => by rw [hbig a (by omega), hg a ha, S.hsame x ρ a ha hc]
  grow := by
    rintro args s v s' ⟨x, ρ, hp, inj, rfl, hg, hnew, rfl, rfl⟩ hw
    have hwf1 : (setAll ρ (S.M1 x ρ) S.ch s).WF := setAll_wf _ _ (fun a ha => hw.lt (hg a (S.hch a ha))) hw
    exact ⟨newAll_wf hwf1, (S.grow1 hg).trans (newAll_grow hwf1)⟩
  det := by
    rintro args s v s' v1 s1 ⟨x, ρ, hp, inj, rfl, hg, hnew, rfl, rfl⟩ ⟨y, σ, _, _, e, hg', hnew', rfl, rfl⟩
    obtain ⟨rfl, hρ⟩ := S.det x ρ y σ s e hg hg'
    have hall : ∀ a, a < S.k + S.m → ρ a = σ a := fun a ha => by
      by_cases h : a < S.k
      · exact hρ a h
      · rw [hnew a (by omega) ha, hnew' a (by omega) ha]
    obtain ⟨e1, e2⟩ := S.par x ρ σ hall
    refine ⟨e1.symm, ?_⟩
    rw [setAll_par hρ (fun a ha => e2 a (by omega)) S.hch]
    exact (newAll_par fun b h1 h2 => e2 b h2).symm
theorem nodup_rho {ids : List Nat} (hn : nodupB ids = true) : ∀ a b, a < ids.length → b < ids.length → rhoL ids a = rhoL ids b → a = b := by
  induction ids with
  | nil => intro a b h; cases h
  | cons y l ih =>
    intro a b h1 h2 e
    simp only [nodupB, Bool.and_eq_true, Bool.not_eq_true', List.any_eq_false] at hn
    have no : ∀ c, c < l.length → y ≠ rhoL l c := fun c hc he => by
      have : rhoL l c ∈ l := by
        unfold rhoL
        rw [List.getD_eq_getElem?_getD, List.getElem?_eq_getElem hc]
        exact List.getElem_mem hc
      have := hn.1 _ this
      rw [← he] at this
      exact this (Nat.beq_refl _)
    cases a with
    | zero =>
      cases b with
      | zero => rfl
      | succ b => exact absurd e (no b (by simpa using h2))
    | succ a =>
      cases b with
      | zero => exact absurd e.symm (no a (by simpa using h1))
      | succ b => rw [ih hn.2 a b (by simpa using h1) (by simpa using h2) e]
/-- 'ids': the numbers of the things, then those of the new ones -/
theorem SmallN.at_ (S : SmallN P G f α) (x : α) (ids : List Nat) (s s' : St) {args : List Value} {v : Value} (hp : S.Pre x) (hl : (ids.take S.k).length = S.k) (hn : nodupB (ids.take S.k) = true) (ha : args = S.A x (rhoL ids)) (hg : ∀ a, a < S.k → s.get (rhoL ids a) = some (S.M x (rhoL ids) a)) (hnew : ∀ a, S.k ≤ a → a < S.k + S.m → rhoL ids a = s.n + (a - S.k)) (hv : v = S.V x (rhoL ids)) (hs : s' = newAll (S.M1 x (rhoL ids)) S.k S.m (setAll (rhoL ids) (S.M1 x (rhoL ids)) S.ch s)) :
    S.con.rel args s v s' := by
  refine ⟨x, rhoL ids, hp, fun a b h1 h2 e => ?_, ha, hg, hnew, hv, hs⟩
  have key : ∀ a, a < S.k → rhoL (ids.take S.k) a = rhoL ids a := fun a ha => by
    unfold rhoL
    rw [List.getD_eq_getElem?_getD, List.getD_eq_getElem?_getD, List.getElem?_take_of_lt ha]
  exact nodup_rho hn a b (by omega) (by omega) (by rw [key a h1, key b h2, e])
end
theorem new_all {k m : Nat} {p : Nat → Nat → Prop} (h : ∀ b, b < m → p (k + b) b) : ∀ a, k ≤ a → a < k + m → p a (a - k) := fun a h1 h2 => by
  have := h (a - k) (by omega)
  rwa [show k + (a - k) = a from by omega] at this
end Go.Ai
/-
  Bytes; numbers of 64 bits as naturals; varints.
-/
namespace Go.Ai
theorem row_iff {α : Type} {f : α → List Value} {sz : Nat} (hz : 0 < sz) (hf : ∀ x, (f x).length = sz) (hi : ∀ {a b : List α}, inlL f sz a = inlL f sz b ↔ a = b) {a b : List α} : rowL f a = rowL f b ↔ a = b := by
  refine ⟨fun h => ?_, fun h => by rw [h]⟩
  simp only [rowL, AObj.arr.injEq, and_true] at h
  have hl : a.length * sz = b.length * sz := by have := congrArg List.length h; rwa [flatL_len hf, flatL_len hf] at this
  exact hi.1 (by rw [inlL, inlL, h, Nat.eq_of_mul_eq_mul_right hz hl])
def bstr (l : List UInt8) : ByteArray := ⟨l.toArray⟩
theorem bstr_list (l : List UInt8) : (bstr l).toList = l := by rw [ByteArray.toList_eq]; rfl
theorem bstr_eq (a b : List UInt8) : ((bstr a).toList == (bstr b).toList) = decide (a = b) := by
  rw [bstr_list, bstr_list]
  by_cases h : a = b <;> simp [h]
section
variable {C : Cfg} {s : St} {l : List UInt8}
end
/-! ### numbers -/
/-- a number's 64 bits -/
def u64 (n : Int) : Nat := (n % 18446744073709551616).toNat
def in64 (n : Int) : Prop := -9223372036854775808 ≤ n ∧ n < 9223372036854775808
theorem bstr_t {a b : List UInt8} (h : ((bstr a).toList == (bstr b).toList) = true) : a = b := by
  rw [bstr_eq] at h; exact of_decide_eq_true h
theorem bstr_f {a b : List UInt8} (h : ((bstr a).toList == (bstr b).toList) = false) : ¬ a = b := by
  rw [bstr_eq] at h; exact of_decide_eq_false h
theorem take_eq_succ {α : Type} {a b : List α} {i : Nat} {x y : α} (h : a.take i = b.take i) (hx : a[i]? = some x) (hy : b[i]? = some y) (e : x = y) : a.take (i + 1) = b.take (i + 1) := by
  rw [List.take_add_one, List.take_add_one, h, hx, hy, e]
theorem ne_at {α : Type} {a b : List α} {i : Nat} {x y : α} (hx : a[i]? = some x) (hy : b[i]? = some y) (e : ¬ x = y) : ¬ a = b := by
  rintro rfl
  rw [hx] at hy
  exact e (Option.some.inj hy)
theorem take_all {α : Type} {a b : List α} {i : Nat} (h : a.take i = b.take i) (h1 : ¬ i < a.length) (h2 : a.length = b.length) : a = b := by
  rw [List.take_of_length_le (by omega), List.take_of_length_le (by omega)] at h
  exact h
end Go.Ai
/-
  Effects in drawn regions, behind looks at what they leave alone.
-/
namespace Go.Ai

section
variable {P : Program} {C : Cfg} {G : Nat} {rc : Rec} {e : Env} {s : St}
theorem rc_eq {t : Task} {v v2 : Value} {s' : St} (h : rc t s = .ret (.val v, s')) (q : v = v2) : rc t s = .ret (.val v2, s') := q ▸ h
end
end Go.Ai
namespace Go.Ai
section
variable {P : Program} {C : Cfg} {α : Type} {f : α → List Value} {sz : Nat} {s : St}
end
end Go.Ai
namespace Go.Ai
end Go.Ai
/-
  Closed calls by their value; two contracts as one; letters of texts; cells at places that are reckoned; 32 bits.
-/
namespace Go.Ai
section
variable {P : Program} {C : Cfg} {G : Nat} {s : St}
/-- two contracts of a function, of unlike calls -/
def Con.or (a b : Con P G) (hf : b.f = a.f) (hx : ∀ args s v s' v1 s1, a.rel args s v s' → b.rel args s v1 s1 → False) : Con P G where
  f := a.f
  rel args s v s' := a.rel args s v s' ∨ b.rel args s v s'
  ok := by
    rintro args s v s' (h | h)
    · exact a.ok _ _ _ _ h
    · exact hf ▸ b.ok _ _ _ _ h
  grow := by
    rintro args s v s' (h | h)
    · exact a.grow _ _ _ _ h
    · exact b.grow _ _ _ _ h
  det := by
    rintro args s v s' v1 s1 (h | h) (h' | h')
    · exact a.det _ _ _ _ _ _ h h'
    · exact (hx _ _ _ _ _ _ h h').elim
    · exact (hx _ _ _ _ _ _ h' h).elim
    · exact b.det _ _ _ _ _ _ h h'
/-- a letter of a text -/
def txtTy (C : Cfg) (t : TypeId) : Bool :=
  match C.ty t with
  | some { desc := .string, .. } => true
  | _ => false
theorem bstr_size (l : List UInt8) : (bstr l).size = l.length := rfl
theorem bstr_get {l : List UInt8} {i : Nat} {x : UInt8} (h : l[i]? = some x) : (bstr l)[i]? = some x := by
  obtain ⟨hi, e⟩ := List.getElem?_eq_some_iff.1 h
  rw [getElem?_pos (bstr l) i (by exact hi)]
  exact congrArg some e
theorem index_bstr {t : TypeId} (ht : txtTy C t = true) {l : List UInt8} {i : Nat} {k : IntKind} {x : UInt8} (h : l[i]? = some x) : indexV C t (.string (bstr l)) (.int k ((i : Nat) : Int)) = some (.int .u8 ((x.toNat : Nat) : Int)) := by
  unfold txtTy at ht
  split at ht
  · rename_i hty
    unfold indexV
    rw [hty]
    simp only
    rw [if_pos (Int.natCast_nonneg i), Int.toNat_natCast, bstr_get h]
    rfl
  · cases ht
/-- a cell at a place that is reckoned -/
theorem load_sym {t : TypeId} (ht : oneTy C t = true) {id o : Nat} {cs : List Value} {v : Value} (hg : s.get id = some (.cells cs)) (hv : cs[o]? = some v) : loadV C s t (.pointer (some ⟨id, o, none⟩)) = some v := by
  have hl := (List.getElem?_eq_some_iff.1 hv).1
  unfold oneTy at ht
  split at ht
  · rename_i ty hty
    have ht : TypeDesc.agg ty.desc = false := by simpa using ht
    unfold loadV
    rw [hty]
    simp only [ht, Bool.false_eq_true, if_false, St.cellsAt, hg]
    rw [if_pos (by omega)]
    have : (cs.drop o).take 1 = [v] := by
      rw [List.drop_eq_getElem_cons hl, List.take_succ_cons, List.take_zero]
      obtain ⟨_, e⟩ := List.getElem?_eq_some_iff.1 hv
      rw [e]
    rw [this]
  · cases ht
def oneSz (C : Cfg) (t : TypeId) : Bool :=
  match C.ty t with
  | some ty => Nat.beq ty.size 1
  | none => false
theorem store_sym {t : TypeId} (ht : oneSz C t = true) {id o : Nat} {cs cs2 : List Value} {v : Value} (h1 : one v = true) (hc : v.cells = #[v]) (hg : s.get id = some (.cells cs)) (ho : o < cs.length) (hs : splice cs o [v] = cs2) : storeV C s t (.pointer (some ⟨id, o, none⟩)) v = some (s.set id (.cells cs2)) := by
  unfold oneSz at ht
  split at ht
  · rename_i ty hty
    have e := Nat.eq_of_beq_eq_true ht
    unfold storeV
    rw [hty]
    have hs2 : v.cells.size = ty.size := by rw [hc, e]; rfl
    refine (if_pos hs2).trans ?_
    unfold St.putCells
    simp only [hg, hc]
    rw [if_pos ⟨(show o + 1 ≤ cs.length from ho), by simpa using h1⟩, hs]
  · cases ht
end
end Go.Ai
/-
  A row that is not written any more, told as a token from here on.
-/
namespace Go.Ai
def frzI (β : Bij) (i mv : Nat) (cs : List Value) (b j : Nat) (v : Value) : Prop :=
  β.ice b j v ∨ ∃ (hi idx : Nat) (L : ArrLoc), mv ≤ hi ∧ hi ≤ cs.length ∧ β.arr i hi = some L ∧ L.block = b ∧ L.lo ≤ idx ∧ idx < hi ∧ j = L.base + (idx - L.lo) ∧ cs[idx]? = some v
def frzB (β : Bij) (i mv : Nat) (cs : List Value) : Bij := { β with ice := frzI β i mv cs }
theorem le_frz {β : Bij} {i mv : Nat} {cs : List Value} : β.le (frzB β i mv cs) := ⟨fun _ _ h => h, fun _ _ _ h => h, fun _ h => h, fun _ _ _ h => .inl h, fun _ _ h => h⟩
/-- a slice of the row, told as a token -/
def AsIce (i mv : Nat) (cs : List Value) (v v2 : Value) : Prop :=
  v2 = v ∨ ∃ hi n sz, v = .slice (some ⟨i, 0, some hi⟩) n sz ∧ mv ≤ hi ∧ hi ≤ cs.length ∧ 0 < sz ∧ n * sz ≤ hi ∧ v2 = inl n sz (cs.take (n * sz))
def AsIces (i mv : Nat) (cs : List Value) : List Value → List Value → Prop
  | [], [] => True
  | v :: l, v2 :: l2 => AsIce i mv cs v v2 ∧ AsIces i mv cs l l2
  | _, _ => False
section
variable {P : Program} {G : Nat} {s : St} {β : Bij} {own : Nat → Option Nat} {w : World} {i mv : Nat} {cs : List Value}
theorem AsIce.vr (hs : SR (okK G) β own s.get w) (hg : s.get i = some (.arr cs mv false)) {v v2 x : Value} (h : AsIce i mv cs v v2) (hv : VR β v x) : VR (frzB β i mv cs) v2 x := by
  rcases h with rfl | ⟨hi, n, sz, rfl, hm, hl, hz, hn, rfl⟩
  · exact hv.mono le_frz
  · have key : ∀ {x : Value}, refy x = true → InlR (frzI β i mv cs) (.slice n sz (cs.take (n * sz)) []) x → VR (frzB β i mv cs) (inl n sz (cs.take (n * sz))) x := by
      intro x hr hx
      refine .junk _ hr fun j hj => ?_
      rw [dec_code] at hj
      obtain rfl := Option.some.inj hj
      exact hx
    cases hv with
    | sliceVir h hz =>
      rw [Nat.zero_mul, List.take_zero] at key ⊢
      exact key rfl (.none hz)
    | @sliceArr _ _ _ _ _ cap L c hL g1 g2 _ hb hcap _ =>
      refine key rfl ?_
      by_cases h0 : n = 0
      · subst h0
        rw [Nat.zero_mul, List.take_zero]
        exact .empty hz
      · rcases hcap with ⟨rfl, hc1, hc2⟩ | ⟨h1, _⟩
        · have hlen : (cs.take (n * sz)).length = n * sz := by rw [List.length_take]; omega
          refine .slice hz hlen hc1 (by rw [hlen]; simpa using Nat.mul_le_mul_right sz hc1) fun j v hj => ?_
          rw [List.append_nil] at hj
          have hjl : j < n * sz := by rw [← hlen]; exact (List.getElem?_eq_some_iff.1 hj).1
          rw [List.getElem?_take_of_lt hjl] at hj
          exact .inr ⟨hi, j, L, hm, hl, hL, rfl, by omega, by omega, by omega, hj⟩
        · exact absurd h1 h0
theorem AsIces.vrs (hs : SR (okK G) β own s.get w) (hg : s.get i = some (.arr cs mv false)) : ∀ {l l2 x : List Value}, AsIces i mv cs l l2 → VRs β l x → VRs (frzB β i mv cs) l2 x
  | [], [], _, _, .nil => .nil
  | _ :: _, _ :: _, _, ⟨h, t⟩, .cons h' t' => .cons (h.vr hs hg h') (t.vrs hs hg t')
  | [], _ :: _, _, h, _ => h.elim
  | _ :: _, [], _, h, _ => h.elim
variable {fid : FuncId} {c : Code} {e : Env} {Q : Out → Env → St → Prop}
end
end Go.Ai
/-
  The rules again, with what the kernel sees left out.
-/
namespace Go.Ai
section
variable {P : Program} {C : Cfg} {G : Nat} {rc : Rec} {e : Env} {s : St} {ops : Array Oper} {i : Nat} {o : Oper} {l : List Oper} {L : Log} {R : Env → St → Prop}
theorem aK (k : Nat) (hR : AllL C rc ops (l.drop k) (getEnv (execOps C rc ops (l.take k) e s)) (getSt (execOps C rc ops (l.take k) e s)) R) (h : isRet (execOps C rc ops (l.take k) e s) = true := by kernel_rfl) : AllL C rc ops l e s R := al_chunk k h hR
theorem aN (hR : R (getEnv (execOps C rc ops l e s)) (getSt (execOps C rc ops l e s))) (h : isRet (execOps C rc ops l e s) = true := by kernel_rfl) : AllL C rc ops l e s R := al_known h hR
theorem dK (k : Nat) (hR : AllD C rc ops (i + (l.take k).length) (l.drop k) (drL (drawRun C rc ops i (l.take k) L e s)) (drE (drawRun C rc ops i (l.take k) L e s)) (drS (drawRun C rc ops i (l.take k) L e s)) R) (h : (drawRun C rc ops i (l.take k) L e s).isSome = true := by kernel_rfl) : AllD C rc ops i l L e s R := ald_chunk k h hR
theorem aM (X : Option Value) (v : Value) (hs : X = some v) (h : AllL C rc ops l (e.dst o.dst v) s R) (hw : Region.wanted o (yieldedV ops e) = true := by kernel_rfl) (ho : oneOp C (fun _ _ => .fail) e s o.op = .ofOption (evalOp C e.eval s o.op) := by kernel_rfl)
    (hv : evalOp C e.eval s o.op = X.map (fun v => (v, s)) := by kernel_rfl) : AllL C rc ops (o :: l) e s R := al_map X v hw ho hv hs h
theorem dM (X : Option Value) (v : Value) (hs : X = some v) (h : AllD C rc ops (i + 1) l ((drawLog C ops i o L e s v s).getD ⟨[], []⟩) (e.dst o.dst v) s R) (hw : Region.wanted o (yieldedV ops e) = true := by kernel_rfl) (ho : oneOp C (fun _ _ => .fail) e s o.op = .ofOption (evalOp C e.eval s o.op) := by kernel_rfl)
    (hv : evalOp C e.eval s o.op = X.map (fun v => (v, s)) := by kernel_rfl) (hl : (drawLog C ops i o L e s v s).isSome = true := by kernel_rfl) : AllD C rc ops i (o :: l) L e s R := ald_mapL X v hw ho hv hs hl h
theorem aT (ht : asB (getV (evalOp C e.eval s o.op)) = true → AllL C rc ops l (e.dst o.dst (.bool true)) s R) (hf : asB (getV (evalOp C e.eval s o.op)) = false → AllL C rc ops l (e.dst o.dst (.bool false)) s R)
    (hw : Region.wanted o (yieldedV ops e) = true := by kernel_rfl) (ho : oneOp C (fun _ _ => .fail) e s o.op = .ofOption (evalOp C e.eval s o.op) := by kernel_rfl)
    (hv : evalOp C e.eval s o.op = some (.bool (asB (getV (evalOp C e.eval s o.op))), s) := by kernel_rfl) : AllL C rc ops (o :: l) e s R := al_test hw ho hv ht hf
theorem dT (ht : asB (getV (evalOp C e.eval s o.op)) = true → AllD C rc ops (i + 1) l (logOf (drawLog C ops i o L e s (.bool true) s)) (e.dst o.dst (.bool true)) s R)
    (hf : asB (getV (evalOp C e.eval s o.op)) = false → AllD C rc ops (i + 1) l (logOf (drawLog C ops i o L e s (.bool false) s)) (e.dst o.dst (.bool false)) s R)
    (hw : Region.wanted o (yieldedV ops e) = true := by kernel_rfl) (hv : evalOp C e.eval s o.op = some (.bool (asB (getV (evalOp C e.eval s o.op))), s) := by kernel_rfl) (ho : oneOp C (fun _ _ => .fail) e s o.op = .ofOption (evalOp C e.eval s o.op) := by kernel_rfl)
    (hl : ∀ b, (drawLog C ops i o L e s (.bool b) s).isSome = true := by (intro b; kernel_rfl)) : AllD C rc ops i (o :: l) L e s R := ald_test hw hv ho hl ht hf
theorem aE {v : Value} (v2 : Value) (he : v = v2) (h : AllL C rc ops l (e.dst o.dst v2) s R) (hw : Region.wanted o (yieldedV ops e) = true := by kernel_rfl) (ho : oneOp C (fun _ _ => .fail) e s o.op = .ofOption (evalOp C e.eval s o.op) := by kernel_rfl)
    (hv : evalOp C e.eval s o.op = some (v, s) := by kernel_rfl) : AllL C rc ops (o :: l) e s R := al_eqv v2 hw ho hv he h
theorem aC (f : FuncId) (args : List Value) (v : Value) (s' : St) {c : Call} (hop : o.op = .call c) (hc : rc (.call f args) s = .ret (.val v, s')) (h : AllL C rc ops l (e.dst o.dst v) s' R) (hb : ∀ b, c.callee ≠ .builtin b := by (intro b h; cases h)) (hw : Region.wanted o (yieldedV ops e) = true := by kernel_rfl)
    (ht : target C s e.eval c = some (.call f args) := by kernel_rfl) (hx0 : extV C (.call f args) = none := by kernel_rfl) : AllL C rc ops (o :: l) e s R := al_callH f args v s' hop hb hw ht hc h hx0
theorem dC (f : FuncId) (args : List Value) (v : Value) (s' : St) {c : Call} (hop : o.op = .call c) (hc : rc (.call f args) s = .ret (.val v, s')) (h : AllD C rc ops (i + 1) l (logOf (drawLog C ops i o L e s v s')) (e.dst o.dst v) s' R) (hb : ∀ b, c.callee ≠ .builtin b := by (intro b h; cases h)) (hw : Region.wanted o (yieldedV ops e) = true := by kernel_rfl)
    (ht : target C s e.eval c = some (.call f args) := by kernel_rfl) (hl : (drawLog C ops i o L e s v s').isSome = true := by kernel_rfl) (hx0 : extV C (.call f args) = none := by kernel_rfl) : AllD C rc ops i (o :: l) L e s R := ald_callH f args v s' hop hb hw ht hc hl h hx0
theorem aB (f : FuncId) (args : List Value) (b : Bool) (s' : St) {c : Call} (hop : o.op = .call c) (hc : rc (.call f args) s = .ret (.val (.bool b), s')) (h1 : b = true → AllL C rc ops l (e.dst o.dst (.bool true)) s' R) (h2 : b = false → AllL C rc ops l (e.dst o.dst (.bool false)) s' R) (hb : ∀ b, c.callee ≠ .builtin b := by (intro b h; cases h))
    (hw : Region.wanted o (yieldedV ops e) = true := by kernel_rfl) (ht : target C s e.eval c = some (.call f args) := by kernel_rfl) (hx0 : extV C (.call f args) = none := by kernel_rfl) : AllL C rc ops (o :: l) e s R := al_callB f args b s' hop hb hw ht hc h1 h2 hx0
theorem dB (f : FuncId) (args : List Value) (b : Bool) (s' : St) {c : Call} (hop : o.op = .call c) (hc : rc (.call f args) s = .ret (.val (.bool b), s')) (h1 : b = true → AllD C rc ops (i + 1) l (logOf (drawLog C ops i o L e s (.bool true) s')) (e.dst o.dst (.bool true)) s' R)
    (h2 : b = false → AllD C rc ops (i + 1) l (logOf (drawLog C ops i o L e s (.bool false) s')) (e.dst o.dst (.bool false)) s' R) (hb : ∀ b, c.callee ≠ .builtin b := by (intro b h; cases h))
    (hw : Region.wanted o (yieldedV ops e) = true := by kernel_rfl) (ht : target C s e.eval c = some (.call f args) := by kernel_rfl) (hl : ∀ b, (drawLog C ops i o L e s (.bool b) s').isSome = true := by (intro b; kernel_rfl)) (hx0 : extV C (.call f args) = none := by kernel_rfl) : AllD C rc ops i (o :: l) L e s R := ald_callB f args b s' hop hb hw ht hc hl h1 h2 hx0
variable {fid : FuncId} {q : Operand} {x y : Code} {Q : Out → Env → St → Prop}
theorem kT (h : SK P G fid x e s Q) (hv : e.eval q = .bool true := by kernel_rfl) : SK P G fid (.cond q x y) e s Q := sk_true hv h
theorem kF (h : SK P G fid y e s Q) (hv : e.eval q = .bool false := by kernel_rfl) : SK P G fid (.cond q x y) e s Q := sk_false hv h
theorem kK (H : CfgOk P C (okK G)) (S : Sound P G rc) {id : Nat} (hQ : Q .normal (getEnv (execOps C rc ops ops.toList e s)) (getSt (execOps C rc ops ops.toList e s))) (h : isRet (execOps C rc ops ops.toList e s) = true := by kernel_rfl) : SK P G fid (.region id ops false) e s Q := sk_regionK H S h hQ
end
end Go.Ai
/-
  A part of no length; bytes that are written; numbers of 62 bits.
-/
namespace Go.Ai
section
variable {C : Cfg} {s : St}
end
end Go.Ai
/-
  Inputs as values of Lean: what reads as a type comes to a value of a Lean type.
-/
namespace Go.Ai
open Go.ChangeShapes Go.WideShapes Go.RowKit

section
variable {P : Program} {n : Nat} {t : TypeId} {α β : Type} {f : α → List Value} {ok : α → Prop}
def Rep (P : Program) (n : Nat) (t : TypeId) {α : Type} (f : α → List Value) (ok : α → Prop) : Prop := ∀ xs, TFits P n t xs → ∃ x, xs = f x ∧ ok x
def FieldsFit (P : Program) (n : Nat) : List Field → List Value → Prop
  | [], xs => xs = []
  | fd :: fs, xs => ∃ l r, xs = l ++ r ∧ TFits P n fd.type l ∧ FieldsFit P n fs r
def RepF (P : Program) (n : Nat) (fs : List Field) {α : Type} (f : α → List Value) (ok : α → Prop) : Prop := ∀ xs, FieldsFit P n fs xs → ∃ x, xs = f x ∧ ok x
theorem Rep.map (h : Rep P n t f ok) {g : β → List Value} {ok' : β → Prop} (e : α → β) (h1 : ∀ x, f x = g (e x)) (h2 : ∀ x, ok x → ok' (e x)) : Rep P n t g ok' := fun xs hx => by
  obtain ⟨x, rfl, q⟩ := h xs hx
  exact ⟨e x, h1 x, h2 x q⟩
theorem rep_int {k : IntKind} (hu : P.underlying t = some (.int k)) : Rep P (n + 1) t (fun x : Int => [.int k x]) (fun x => k.min ≤ x ∧ x ≤ k.max) := fun xs h => by
  unfold TFits at h
  rw [hu] at h
  obtain ⟨x, rfl, q⟩ := h
  simp only [Lit.wf, Bool.and_eq_true, decide_eq_true_eq] at q
  exact ⟨x, rfl, q⟩
/-- elements one by one -/
theorem rep_list {e : TypeId} {sz : Nat} (h : Rep P n e f ok) : ∀ (ls : List (List Value)), (∀ l ∈ ls, l.length = sz ∧ TFits P n e l) → ∃ xs : List α, ls.flatten = flatL f xs ∧ xs.length = ls.length ∧ ∀ x ∈ xs, ok x
  | [], _ => ⟨[], rfl, rfl, fun x hx => by cases hx⟩
  | l :: ls, hl => by
    obtain ⟨x, q1, q2⟩ := h l (hl l (List.mem_cons_self ..)).2
    obtain ⟨xs, q3, q4, q5⟩ := rep_list (sz := sz) h ls fun l' h' => hl l' (List.mem_cons_of_mem _ h')
    refine ⟨x :: xs, ?_, by simp [q4], fun y hy => ?_⟩
    · rw [List.flatten_cons, q3, q1]; rfl
    · rcases List.mem_cons.1 hy with rfl | hy
      · exact q2
      · exact q5 y hy
theorem rep_slice {e : TypeId} {sz : Nat} (hu : P.underlying t = some (.slice e)) (hsz : P.cellsOf e = sz) (h : Rep P n e f ok) : Rep P (n + 1) t (fun l : List α => [inlL f sz l]) (fun l => l.length ≤ maxLen ∧ ∀ x ∈ l, ok x) := fun xs hx => by
  unfold TFits at hx
  rw [hu] at hx
  obtain ⟨ls, rfl, q1, q2⟩ := hx
  rw [hsz] at q2 ⊢
  obtain ⟨xs, q3, q4, q5⟩ := rep_list h ls q2
  refine ⟨xs, ?_, by omega, q5⟩
  show [inl ls.length sz ls.flatten] = [inl xs.length sz (flatL f xs)]
  rw [q3, q4]
theorem fields_fit : ∀ (fs : List Field) (ls : List (List Value)), ls.length = fs.length → (∀ (j : Nat) (fd : Field) (l : List Value), fs[j]? = some fd → ls[j]? = some l → l.length = P.cellsOf fd.type ∧ TFits P n fd.type l) → FieldsFit P n fs ls.flatten
  | [], [], _, _ => rfl
  | [], _ :: _, h, _ => by simp at h
  | _ :: _, [], h, _ => by simp at h
  | fd :: fs, l :: ls, h, hl => ⟨l, ls.flatten, rfl, (hl 0 fd l rfl rfl).2, fields_fit fs ls (by simpa using h) fun j fd' l' h1 h2 => hl (j + 1) fd' l' (by simpa using h1) (by simpa using h2)⟩
theorem rep_struct {fs : Array Field} (hu : P.underlying t = some (.struct fs)) (h : RepF P n fs.toList f ok) : Rep P (n + 1) t f ok := fun xs hx => by
  unfold TFits at hx
  rw [hu] at hx
  obtain ⟨ls, rfl, q1, q2⟩ := hx
  exact h _ (fields_fit _ _ q1 q2)
theorem repF_one {fd : Field} (h : Rep P n fd.type f ok) : RepF P n [fd] f ok := fun xs hx => by
  obtain ⟨l, r, rfl, h1, h2⟩ := hx
  have h2 : r = [] := h2
  subst h2
  rw [List.append_nil]
  exact h l h1
theorem repF_cons {fd : Field} {fs : List Field} {g : β → List Value} {ok' : β → Prop} (h : Rep P n fd.type f ok) (h' : RepF P n fs g ok') : RepF P n (fd :: fs) (fun x : α × β => f x.1 ++ g x.2) (fun x => ok x.1 ∧ ok' x.2) := fun xs hx => by
  obtain ⟨l, r, rfl, h1, h2⟩ := hx
  obtain ⟨x, rfl, q⟩ := h l h1
  obtain ⟨y, rfl, q'⟩ := h' r h2
  exact ⟨(x, y), rfl, q, q'⟩

variable {H : Type} {enc : TypeId × Value → H} {W : World} {v : Value} {d : DataW H} {ps : List MemPlace}
theorem arg_cells (hl : layOk P n t = true) (hr : Rep P n t f ok) (h : DataW.Trod enc P W 0 (fun _ => true) true t v d ps) : ∃ x, ok x ∧ VRs (layB P W) (f x) v.cells.toList := by
  obtain ⟨fuel, h⟩ := h
  obtain ⟨xs, h1, h2⟩ := lay_arg hl h
  obtain ⟨x, rfl, q⟩ := hr xs h2
  exact ⟨x, q, h1⟩
theorem arg_struct {fs : Array Field} {base : Nat} (hu : P.underlying t = some (.struct fs)) (hw : Value.okWide P W .any base t v) (hl : layOk P n t = true) (hr : Rep P n t f ok) (h : DataW.Trod enc P W 0 (fun _ => true) true t v d ps) : ∃ x, ok x ∧ VR (layB P W) (.agg (f x).toArray) v := by
  obtain ⟨cs, rfl, _⟩ := okWide_struct hu hw
  obtain ⟨x, q, h1⟩ := arg_cells hl hr h
  exact ⟨x, q, .agg h1⟩
end
end Go.Ai