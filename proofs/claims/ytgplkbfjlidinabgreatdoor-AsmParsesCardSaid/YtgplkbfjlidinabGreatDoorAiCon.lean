/- The interpreter: what holds of it. -/
import Derived.Test.YtgplkbfjlidinabGreatDoorAiRn
import Derived.Laws.Strings
import Derived.Test.YtgplkbfjlidinabGreatDoorAiEq
import Derived.Test.YtgplkbfjlidinabGreatDoorKit
set_option linter.unusedVariables false
set_option linter.unusedSimpArgs false
set_option linter.unnecessarySimpa false
/-
  Contracts in bundles.
-/
namespace Go.Ai
mutual
theorem sub_clo {R : Nat → Option Nat → Nat → Prop} : ∀ {v : Value}, clo v = true → Sub R v v
  | .bool _, _ => .bool _
  | .int _ _, _ => .int _ _
  | .float _ _, _ => .float _ _
  | .complex _ _ _, _ => .complex _ _ _
  | .string _, _ => .string _
  | .pointer none, _ => .ptrNil
  | .pointer (some _), h => by simp [clo] at h
  | .slice none 0 0, _ => .sliceNil
  | .slice none (_ + 1) _, h => by simp [clo] at h
  | .slice none 0 (_ + 1), h => by simp [clo] at h
  | .slice (some _) _ _, h => by simp [clo] at h
  | .map none, _ => .mapNil
  | .map (some _), h => by simp [clo] at h
  | .chan c, _ => .chan c
  | .func _ _ _, h => by simp [clo] at h
  | .nilFunc, _ => .nilFunc
  | .iface _ _, h => .iface (sub_clo (by simpa [clo] using h))
  | .nilIface, _ => .nilIface
  | .agg ⟨l⟩, h => .agg (subs_clo (by simpa [clo, clo.cloA] using h))
  | .tuple ⟨l⟩, h => .tuple (subs_clo (by simpa [clo, clo.cloA] using h))
theorem subs_clo {R : Nat → Option Nat → Nat → Prop} : ∀ {l : List Value}, clo.cloL l = true → Subs R l l
  | [], _ => .nil
  | v :: l, h => by
    simp only [clo.cloL, Bool.and_eq_true] at h
    exact .cons (sub_clo h.1) (subs_clo h.2)
end
structure Con (P : Program) (G : Nat) where
 f : FuncId
 rel : List Value → St → Value → St → Prop
 ok : ∀ args s v s', rel args s v s' → SCF P G f args s fun v1 s1 => v1 = v ∧ s1 = s'
 grow : ∀ args s v s', rel args s v s' → s.WF → s'.WF ∧ Grow s s'
 det : ∀ args s v s' v1 s1, rel args s v s' → rel args s v1 s1 → v1 = v ∧ s1 = s'
section
variable {P : Program} {G : Nat}
def nodupB : List Nat → Bool
 | [] => true
 | x :: l => !(l.any (Nat.beq x)) && nodupB l
theorem rc_con {rc0 : Rec} (h0 : Sound P G rc0) (cs : List (Con P G)) (hn : nodupB (cs.map Con.f) = true) : ∃ rc, Sound P G rc ∧ ∀ c ∈ cs, ∀ args s v s', c.rel args s v s' → rc (.call c.f args) s = .ret (.val v, s') := by
  have huniq : ∀ (cs : List (Con P G)), nodupB (cs.map Con.f) = true → ∀ c ∈ cs, ∀ c' ∈ cs, c.f = c'.f → c = c' := by
    intro cs;induction cs with
    | nil => intro _ c h; cases h
    | cons x l ih =>
      intro h c hc c' hc' e;simp only [List.map_cons, nodupB, Bool.and_eq_true, Bool.not_eq_true', List.any_eq_false] at h;have no : ∀ y ∈ l, x.f ≠ y.f := fun y hy he => by
        have := h.1 y.f (List.mem_map_of_mem hy);rw [he] at this;exact this (Nat.beq_refl _)
      rcases List.mem_cons.1 hc with h1 | h1
      · rcases List.mem_cons.1 hc' with h2 | h2
        · rw [h1, h2]
        · exact absurd (h1 ▸ e) (no _ h2)
      · rcases List.mem_cons.1 hc' with h2 | h2
        · exact absurd (h2 ▸ e.symm) (no _ h1)
        · exact ih h.2 c h1 c' h2 e
  let Sp : Contract := fun f args s v s' => ∃ c ∈ cs, c.f = f ∧ c.rel args s v s'
  have hSp : SpecOk P G Sp := by
    refine ⟨?_, ?_⟩
    · rintro f args s v s' ⟨c, hc, rfl, h⟩
      exact c.ok _ _ _ _ h
    · rintro f args s v s' ⟨c, hc, rfl, h⟩ hw
      exact c.grow _ _ _ _ h hw
  refine ⟨over (cs.map Con.f) Sp rc0, sound_over hSp h0, fun c hc args s v s' h => ?_⟩;obtain ⟨v1, s1, ⟨c1, hc1, e1, h1⟩, h2⟩ := over_hit (rc := rc0) (fs := cs.map Con.f) (S := Sp) (f := c.f) (by simpa using List.mem_map_of_mem hc) ⟨c, hc, rfl, h⟩;obtain rfl := huniq cs hn c1 hc1 c hc e1;obtain ⟨rfl, rfl⟩ := c1.det _ _ _ _ _ _ h h1;exact h2
theorem scf_pure0 {f : FuncId} {args : List Value} {s : St} {v : Value} (N : Nat) (hargs : Subs (idR 0) args args) (hv : Sub (idR 0) v v) (h : SC P G f args (St.empty 0) fun v1 s1 => v1 = v ∧ s1.n ≤ N) (hG : gl G = 0 := by rfl) : SCF P G f args s fun v1 s1 => v1 = v ∧ s1 = s := by
 intro hsw;have hR : ∀ i sp j, idR 0 i sp j → j < 0 ∧ j = i := Z0z
 refine sc_frame (fun _ _ => False) (G := G) (k := 0) (ρ := fun i => i) (s := s) (s0 := St.empty 0) (fit_id rfl (Nat.zero_le _) (Z2d 0) (Nat.le_of_eq hG) (fun i hi => Z4) (fun i hi => Z4)) N (fun _ _ _ _ _ h => h.elim) (hargs.mono hR) h ?_ hsw;rintro _ v0 s0' ⟨rfl, hn⟩ hw0' hg;refine ⟨hn, _, v0, s, ⟨rfl, rfl⟩, hv.mono ?_, back_id (Nat.zero_le _) hsw (fun i hi => Z4) (fun i hi => Z4) (fun i hi => Z4), fun i hi => .inr fun _ => rfl⟩;rintro i sp j ⟨h, rfl⟩;exact .inl (if_pos h)
def Con.pure {α : Type} (f : FuncId) (A : α → List Value) (V : α → Value) (Pre : α → Prop) (inj : ∀ x y, A x = A y → x = y) (hA : ∀ x, clo.cloL (A x) = true) (hV : ∀ x, clo (V x) = true) (N : Nat)
  (h : ∀ x, Pre x → SC P G f (A x) (St.empty 0) fun v s' => v = V x ∧ s'.n ≤ N) (hG : gl G = 0 := by rfl) : Con P G where
 f := f
 rel args s v s' := s' = s ∧ ∃ x, Pre x ∧ args = A x ∧ v = V x
 ok := by
  rintro args s v s' ⟨rfl, x, hp, rfl, rfl⟩
  exact scf_pure0 N (subs_clo (hA x)) (sub_clo (hV x)) (h x hp) hG
 grow := by
  rintro args s v s' ⟨rfl, _⟩ hw
  exact ⟨hw, .refl _⟩
 det := by
  rintro args s v s' v1 s1 ⟨rfl, x, _, rfl, rfl⟩ ⟨rfl, y, _, e, rfl⟩
  obtain rfl := inj _ _ e
  exact ⟨rfl, rfl⟩
theorem con_pure {α : Type} {f : FuncId} {A : α → List Value} {V : α → Value} {Pre : α → Prop} {inj : ∀ x y, A x = A y → x = y} {hA : ∀ x, clo.cloL (A x) = true} {hV : ∀ x, clo (V x) = true} {N : Nat}
 {h : ∀ x, Pre x → SC P G f (A x) (St.empty 0) fun v s' => v = V x ∧ s'.n ≤ N} {hG : gl G = 0} (x : α) (hp : Pre x) (s : St) : (Con.pure f A V Pre inj hA hV N h hG).rel (A x) s (V x) s := ⟨rfl, x, hp, rfl, rfl⟩
theorem sc_ice0 {f : FuncId} {args : List Value} {N : Nat} {v2 : Value} {Q : Value → St → Prop} (h : SC P G f args (St.empty 0) Q) (hq : ∀ v s', Q v s' → FS 0 s' v v2 ∧ s'.n ≤ N) : SC P G f args (St.empty 0) fun v s' => v = v2 ∧ s'.n ≤ N := by
 refine sc_ice (k := 0) rfl h fun v s' hv => ?_
 obtain ⟨h1, h2⟩ := hq v s' hv;exact ⟨v2, h1, (fun i hi => absurd hi (Nat.not_lt_zero i)), (fun i hi => absurd hi (Nat.not_lt_zero i)), rfl, h2⟩
theorem fs_rowL {α : Type} {f : α → List Value} {sz : Nat} {l : List α} {k id : Nat} {s : St} (hz : 0 < sz) (hf : ∀ x, (f x).length = sz) (hc : ∀ x, clo.cloL (f x) = true) (ho : ∀ x, (f x).all one = true) (hk : k ≤ id) (hg : s.get id = some (rowL f l)) : FS k s (slL id sz l.length) (inlL f sz l) := by
  have hl := flatL_len (l := l) hf;refine .row hk hg (Nat.zero_le _) Z4 hz ?_ (Z2o hc) (flatL_one ho);rw [List.drop_zero, List.take_of_length_le Z4];have : ∀ q : List Value, clo.cloL q = true → FSL k s q q := by
    intro q;induction q with
    | nil => exact fun _ => .nil
    | cons v q ih =>
      intro h;simp only [clo.cloL, Bool.and_eq_true] at h;exact .cons (.same (sub_clo h.1)) (ih h.2)
  exact this _ (Z2o hc)
theorem Z2b {k : Nat} {s : St} {v : Value} (h : clo v = true) : FS k s v v := .same (sub_clo h)
theorem fs_nilL {α : Type} {f : α → List Value} {sz k : Nat} {s : St} (hz : 0 < sz) : FS k s (.slice none 0 0) (inlL f sz []) := .nil hz
end
end Go.Ai
/-
  Small lemmas that printed proofs use.
-/
namespace Go.Ai
section
variable {P : Program} {C : Cfg} {G : Nat} {rc : Rec} {e : Env} {s : St}
theorem al_eqv {v : Value} (v2 : Value) {ops : Array Oper} {o : Oper} {l : List Oper} {R : Env → St → Prop} (hw : Region.wanted o (Z2p ops e) = true) (ho : oneOp C (fun _ _ => .fail) e s o.op = .ofOption (Z2m C e.eval s o.op))
 (hv : Z2m C e.eval s o.op = some (v, s)) (he : v = v2) (h : AllL C rc ops l (e.dst o.dst v2) s R) : AllL C rc ops (o :: l) e s R := al_opF hw ho (he ▸ hv) h
theorem ald_eqv {v : Value} (v2 : Value) {ops : Array Oper} {i : Nat} {o : Oper} {l : List Oper} {L : Log} {R : Env → St → Prop} (hw : Region.wanted o (Z2p ops e) = true) (ho : oneOp C (fun _ _ => .fail) e s o.op = .ofOption (Z2m C e.eval s o.op))
  (hv : Z2m C e.eval s o.op = some (v, s)) (he : v = v2) (hl : (drawLog C ops i o L e s v2 s).isSome = true) (h : AllD C rc ops (i + 1) l (logOf (drawLog C ops i o L e s v2 s)) (e.dst o.dst v2) s R) : AllD C rc ops i (o :: l) L e s R :=
 ald_op _ hw (he ▸ hv) ho (log_some hl) h
theorem ald_opF {ops : Array Oper} {i : Nat} {o : Oper} {l : List Oper} {L : Log} {s1 : St} {v : Value} {R : Env → St → Prop} (hw : Region.wanted o (Z2p ops e) = true) (ho : oneOp C (fun _ _ => .fail) e s o.op = .ofOption (Z2m C e.eval s o.op))
  (hv : Z2m C e.eval s o.op = some (v, s1)) (hl : (drawLog C ops i o L e s v s1).isSome = true) (h : AllD C rc ops (i + 1) l (logOf (drawLog C ops i o L e s v s1)) (e.dst o.dst v) s1 R) : AllD C rc ops i (o :: l) L e s R :=
 ald_op _ hw hv ho (log_some hl) h
end
theorem get_ex {α : Type} {l : List α} {i : Nat} (h : i < l.length) : ∃ x, l[i]? = some x := ⟨l[i], List.getElem?_eq_getElem h⟩
theorem wrap64 {n : Int} (h : -(2 ^ 63 : Int) ≤ n ∧ n < 2 ^ 63) : IntKind.wrap .i64 n = n := by
 unfold IntKind.wrap;simp [IntKind.bits, IntKind.signed]
 omega
theorem Z2t {x : Int} {c : Nat} (h : x = ((c : Nat) : Int)) (h2 : c < 9223372036854775808) : IntKind.wrap .i64 x = ((c : Nat) : Int) := by
 rw [h, wrap64 Z4]
section
variable {α : Type} {f : α → List Value} {l : List α} {sz : Nat} {C : Cfg}
end
def Selfs (k : Nat) (M : St) (j : Nat) : Prop := ∀ i, j ≤ i → i < k → ORel (idR k) (M.get i) (M.get i)
theorem Z2g {k : Nat} {M : St} : Selfs k M k := fun i h1 h2 => Z4
theorem all_cons {k : Nat} {M : St} {j : Nat} {o : AObj} (hg : M.get j = some o) (ho : OSub (idR k) o o) (h : Selfs k M (j + 1)) : Selfs k M j := fun i h1 h2 => by
 by_cases e : i = j
 ·subst e;rw [hg];exact ho
 ·exact h i Z4 h2
theorem selfs {k : Nat} {M : St} (h : Selfs k M 0) : ∀ i, i < k → ORel (idR k) (M.get i) (M.get i) := fun i hi => h i (Nat.zero_le _) hi
theorem Z2n {k : Nat} {s M : St} (h : (List.range k).map s.get = (List.range k).map M.get) : ∀ i, i < k → s.get i = M.get i := fun i hi => by
 have h1 : ((List.range k).map s.get)[i]? = ((List.range k).map M.get)[i]? := by rw [h]
 rw [List.getElem?_map, List.getElem?_map, List.getElem?_range hi] at h1;exact Option.some.inj h1
section
variable {P : Program} {G : Nat} {fid : FuncId} {c : Code} {s : St} {Q : Out → Env → St → Prop}
end
theorem fs_to {k : Nat} {s : St} {v v2 v3 : Value} (h : FS k s v v2) (e : v2 = v3) : FS k s v v3 := e ▸ h
theorem and_l {a b : Bool} (h : (a && b) = true) : a = true := by cases a; exact h; rfl
theorem and_r {a b : Bool} (h : (a && b) = true) : b = true := by cases a; cases h; exact h
theorem and_i {a b : Bool} (h : a = true) (h' : b = true) : (a && b) = true := by rw [h, h']; rfl
theorem not_t {a : Bool} (h : (!a) = true) : a = false := by cases a; rfl; cases h
theorem not_f {a : Bool} (h : (!a) = false) : a = true := by cases a; cases h; rfl
end Go.Ai
/-
  Contracts of calls that look at things, or change them.
-/
namespace Go.Ai
def rhoL (l : List Nat) (a : Nat) : Nat := l.getD a 0
def setAll (ρ : Nat → Nat) (M : Nat → AObj) : List Nat → St → St
 | [], s => s
 | a :: l, s => setAll ρ M l (s.set (ρ a) (M a))
theorem setAll_get {ρ : Nat → Nat} {M : Nat → AObj} {k : Nat} (inj : ∀ a b, a < k → b < k → ρ a = ρ b → a = b) : ∀ {l : List Nat} {s : St}, (∀ a ∈ l, a < k) → ∀ a, a < k → (setAll ρ M l s).get (ρ a) = if a ∈ l then some (M a) else s.get (ρ a)
  | [], s, _, a, _ => by simp [setAll]
  | b :: l, s, h, a, ha => by
    unfold setAll;rw [setAll_get inj (fun x hx => h x (List.mem_cons_of_mem _ hx)) a ha, St.get_set];by_cases h1 : a ∈ l
    · rw [if_pos h1, if_pos (List.mem_cons_of_mem _ h1)]
    · rw [if_neg h1]
      by_cases h2 : a = b
      · subst h2
        rw [if_pos rfl, if_pos (List.mem_cons_self ..)]
      · rw [if_neg (fun e => h2 (inj a b ha (h b (List.mem_cons_self ..)) e)), if_neg]
        simp [h1, h2]
theorem setAll_far {ρ : Nat → Nat} {M : Nat → AObj} {j : Nat} : ∀ {l : List Nat} {s : St}, (∀ a ∈ l, ρ a ≠ j) → (setAll ρ M l s).get j = s.get j
  | [], s, _ => rfl
  | b :: l, s, h => by
    unfold setAll;rw [setAll_far (fun x hx => h x (List.mem_cons_of_mem _ hx)), St.get_set, if_neg (fun e => h b (List.mem_cons_self ..) e.symm)]
theorem setAll_n {ρ : Nat → Nat} {M : Nat → AObj} : ∀ {l : List Nat} {s : St}, (setAll ρ M l s).n = s.n
 | [], s => rfl
 | b :: l, s => by unfold setAll; rw [setAll_n, St.n_set]
structure Small (P : Program) (G : Nat) (f : FuncId) (α : Type) where
 k : Nat
 A : α → (Nat → Nat) → List Value
 M : α → (Nat → Nat) → Nat → AObj
 M1 : α → (Nat → Nat) → Nat → AObj
 V : α → (Nat → Nat) → Value
 M1s : α → Nat → AObj := fun x a => M1 x id a
 Vs : α → Value := fun x => V x id
 Pre : α → Prop
 ch : List Nat
 N : Nat
 s0 : α → St
 hch : ∀ a ∈ ch, a < k
 hsame : ∀ x ρ a, a < k → a ∉ ch → M1 x ρ a = M x ρ a
 hG : gl G = 0
 hn : ∀ x, (s0 x).n = k
 hwf : ∀ x, (s0 x).WF
 hget : ∀ x a, a < k → (s0 x).get a = some (M x id a)
 noloop : ∀ x ρ a, a < k → ¬ isLoop (some (M x ρ a))
 inA : ∀ x ρ (R : Nat → Option Nat → Nat → Prop), (∀ a sp, a < k → R (ρ a) sp a) → Subs R (A x ρ) (A x id)
 inM : ∀ x ρ (R : Nat → Option Nat → Nat → Prop), (∀ a sp, a < k → R (ρ a) sp a) → ∀ a, a < k → OSub R (M x ρ a) (M x id a)
 outM : ∀ x ρ (R : Nat → Option Nat → Nat → Prop), (∀ a sp, a < k → R a sp (ρ a)) → ∀ a, a < k → OSub R (M1s x a) (M1 x ρ a)
 outV : ∀ x ρ (R : Nat → Option Nat → Nat → Prop), (∀ a sp, a < k → R a sp (ρ a)) → Sub R (Vs x) (V x ρ)
 dom : ∀ x ρ a, a ∈ ch → (∀ (β : Bij) y, VRs β (A x ρ) y → β.dom (ρ a)) ∨ (M1s x a = M x id a → M1 x ρ a = M x ρ a)
 sc : ∀ x, Pre x → SC P G f (A x id) (s0 x) fun v s' => v = Vs x ∧ s'.n ≤ N ∧ ∀ a, a < k → s'.get a = some (M1s x a)
 det : ∀ x ρ y σ (s : St), A x ρ = A y σ → (∀ a, a < k → s.get (ρ a) = some (M x ρ a)) → (∀ a, a < k → s.get (σ a) = some (M y σ a)) → x = y ∧ ∀ a, a < k → ρ a = σ a
 par : ∀ x ρ σ, (∀ a, a < k → ρ a = σ a) → V x ρ = V x σ ∧ ∀ a, a < k → M1 x ρ a = M1 x σ a
section
variable {P : Program} {G : Nat} {f : FuncId} {α : Type}
theorem setAll_par {ρ σ : Nat → Nat} {M N : Nat → AObj} {k : Nat} (h : ∀ a, a < k → ρ a = σ a) (hm : ∀ a, a < k → M a = N a) : ∀ {l : List Nat} {s : St}, (∀ a ∈ l, a < k) → setAll ρ M l s = setAll σ N l s
  | [], _, _ => rfl
  | b :: l, s, hl => by
    unfold setAll;rw [h b (hl b (List.mem_cons_self ..)), hm b (hl b (List.mem_cons_self ..)), setAll_par h hm fun a ha => hl a (List.mem_cons_of_mem _ ha)]
def Small.rel (S : Small P G f α) (args : List Value) (s : St) (v : Value) (s' : St) : Prop := ∃ x ρ, S.Pre x ∧ (∀ a b, a < S.k → b < S.k → ρ a = ρ b → a = b) ∧ args = S.A x ρ ∧ (∀ a, a < S.k → s.get (ρ a) = some (S.M x ρ a)) ∧ v = S.V x ρ ∧ s' = setAll ρ (S.M1 x ρ) S.ch s
theorem Small.wf (S : Small P G f α) {x : α} {ρ : Nat → Nat} {s : St} (hg : ∀ a, a < S.k → s.get (ρ a) = some (S.M x ρ a)) (hw : s.WF) : (setAll ρ (S.M1 x ρ) S.ch s).WF := by
  have : ∀ (l : List Nat) (s : St), (∀ a ∈ l, ρ a < s.n) → s.WF → (setAll ρ (S.M1 x ρ) l s).WF := by
    intro l;induction l with
    | nil => intro s _ h; exact h
    | cons b l ih =>
      intro s hl h;refine ih _ (fun a ha => ?_) ?_
      · rw [St.n_set]; exact hl a (List.mem_cons_of_mem _ ha)
      · intro i hi
        rw [St.n_set] at hi;rw [St.get_set, if_neg (by have := hl b (List.mem_cons_self ..); omega)];exact h i hi
  exact this _ _ (fun a ha => hw.lt (hg a (S.hch a ha))) hw
theorem Small.grow (S : Small P G f α) {x : α} {ρ : Nat → Nat} {s : St} (inj : ∀ a b, a < S.k → b < S.k → ρ a = ρ b → a = b) (hg : ∀ a, a < S.k → s.get (ρ a) = some (S.M x ρ a)) : Grow s (setAll ρ (S.M1 x ρ) S.ch s) := by
 refine ⟨by rw [setAll_n]; exact Nat.le_refl _, fun l hl => ?_⟩;by_cases h : ∃ a, a < S.k ∧ ρ a = l
 ·obtain ⟨a, ha, rfl⟩ := h;rw [hg a ha] at hl;exact absurd hl (S.noloop x ρ a ha)
 ·rw [setAll_far (fun a ha e => h ⟨a, S.hch a ha, e⟩)];exact hl
def Small.con (S : Small P G f α) : Con P G where
 f := f
 rel := S.rel
 ok := by
  rintro args s v s' ⟨x, ρ, hp, inj, rfl, hg, rfl, rfl⟩ hsw
  have F : Fit G S.k ρ s (S.s0 x) := ⟨S.hn x, fun a b h1 h2 e => .inl (inj a b h1 h2 e), fun a h1 => hsw.lt (hg a h1), fun a ha => by
   rw [hg a ha, S.hget x a ha]
   exact S.inM x ρ _ (fun a sp h => ⟨h, rfl⟩) a ha, fun g hg => by rw [S.hG] at hg; omega, S.hwf x⟩
  refine sc_frame (fun _ _ => False) F S.N (fun _ _ _ _ _ h => h.elim) (S.inA x ρ _ fun a sp h => ⟨h, rfl⟩) (S.sc x hp) ?_ hsw
  rintro _ v0 s0' ⟨rfl, hN, h1⟩ hw0 hgr
  have hR : ∀ a sp, a < S.k → Ways S.k ρ (fun j => if j < S.k then some (ρ j) else none) (fun _ _ => False) a sp (ρ a) := fun a sp ha => .inl (if_pos ha)
  refine ⟨hN, fun j => if j < S.k then some (ρ j) else none, _, _, ⟨rfl, rfl⟩, S.outV x ρ _ hR, ?_, fun a ha => ?_⟩
  ·refine ⟨fun j hj => .inl (by rw [if_pos hj]), (fun j j' hj _ _ h => by rw [if_pos hj] at h; cases h), fun j j' hj h => ?_, fun j j' y h h' => ?_, fun j y h => ?_, fun j hj hn => ?_, by rw [setAll_n]; exact Nat.le_refl _, S.wf hg hsw, S.grow inj hg⟩
   ·rw [if_neg (by omega)] at h; cases h
   ·by_cases e : j < S.k
    ·by_cases e' : j' < S.k
     ·rw [if_pos e] at h
      rw [if_pos e'] at h'
      exact inj j j' e e' ((Option.some.inj h).trans (Option.some.inj h').symm)
     ·rw [if_neg e'] at h'; cases h'
    ·rw [if_neg e] at h; cases h
   ·by_cases e : j < S.k
    ·rw [if_pos e] at h
     obtain rfl := Option.some.inj h
     rw [h1 j e, setAll_get inj S.hch j e]
     have := S.outM x ρ _ hR j e
     by_cases hc : j ∈ S.ch
     ·rw [if_pos hc]; exact this
     ·rw [if_neg hc, hg j e, ← S.hsame x ρ j e hc]; exact this
    ·rw [if_neg e] at h; cases h
   ·exact setAll_far fun a ha => hn a (S.hch a ha)
  ·by_cases hc : a ∈ S.ch
   ·rcases S.dom x ρ a hc with h | h
    ·exact .inl h
    ·refine .inr fun e => ?_
     rw [h1 a ha, S.hget x a ha] at e
     rw [setAll_get inj S.hch a ha, if_pos hc, hg a ha, h (Option.some.inj e)]
   ·exact .inr fun _ => by rw [setAll_get inj S.hch a ha, if_neg hc]
 grow := by
  rintro args s v s' ⟨x, ρ, hp, inj, rfl, hg, rfl, rfl⟩ hw
  exact ⟨S.wf hg hw, S.grow inj hg⟩
 det := by
  rintro args s v s' v1 s1 ⟨x, ρ, hp, inj, rfl, hg, rfl, rfl⟩ ⟨y, σ, _, _, e, hg', rfl, rfl⟩
  obtain ⟨rfl, hρ⟩ := S.det x ρ y σ s e hg hg'
  obtain ⟨e1, e2⟩ := S.par x ρ σ hρ
  exact ⟨e1.symm, (setAll_par hρ e2 S.hch).symm⟩
theorem Small.at_ (S : Small P G f α) (x : α) (ids : List Nat) (s s' : St) {args : List Value} {v : Value} (hp : S.Pre x) (hl : ids.length = S.k) (hn : nodupB ids = true) (ha : args = S.A x (rhoL ids)) (hg : ∀ a, a < S.k → s.get (rhoL ids a) = some (S.M x (rhoL ids) a)) (hv : v = S.V x (rhoL ids)) (hs : s' = setAll (rhoL ids) (S.M1 x (rhoL ids)) S.ch s) :
    S.con.rel args s v s' := by
  refine ⟨x, rhoL ids, hp, ?_, ha, hg, hv, hs⟩;have key : ∀ (l : List Nat), nodupB l = true → ∀ a b, a < l.length → b < l.length → rhoL l a = rhoL l b → a = b := by
    intro l;induction l with
    | nil => intro _ a b h; cases h
    | cons y l ih =>
      intro h a b h1 h2 e;simp only [nodupB, Bool.and_eq_true, Bool.not_eq_true', List.any_eq_false] at h;have no : ∀ c, c < l.length → y ≠ rhoL l c := fun c hc he => by
        have : rhoL l c ∈ l := by
          unfold rhoL;rw [List.getD_eq_getElem?_getD, List.getElem?_eq_getElem hc];exact List.getElem_mem hc
        have := h.1 _ this;rw [← he] at this;exact this (Nat.beq_refl _)
      cases a with
      | zero =>
        cases b with
        | zero => rfl
        | succ b => exact absurd e (no b Z1q)
      | succ a =>
        cases b with
        | zero => exact absurd e.symm (no a Z1e)
        | succ b => rw [ih h.2 a b Z1e Z1q e]
  rw [← hl];exact key ids hn
end
end Go.Ai
namespace Go.Ai
def objL (l : List AObj) (a : Nat) : AObj := l.getD a .dead
theorem all0 {p : Nat → Prop} : ∀ a, a < 0 → p a := fun a h => absurd h (Nat.not_lt_zero a)
theorem all1 {p : Nat → Prop} (h0 : p 0) : ∀ a, a < 1 → p a := fun a h => by
 obtain rfl : a = 0 := Z4;exact h0
theorem all2 {p : Nat → Prop} (h0 : p 0) (h1 : p 1) : ∀ a, a < 2 → p a := fun a h => by
 rcases (by omega : a = 0 ∨ a = 1) with rfl | rfl
 ·exact h0
 ·exact h1
theorem all3 {p : Nat → Prop} (h0 : p 0) (h1 : p 1) (h2 : p 2) : ∀ a, a < 3 → p a := fun a h => by
 rcases (by omega : a = 0 ∨ a = 1 ∨ a = 2) with rfl | rfl | rfl
 ·exact h0
 ·exact h1
 ·exact h2
theorem VR.dom_ptr {β : Bij} {i o : Nat} {sp : Option Nat} {x : Value} (h : VR β (.pointer (some ⟨i, o, sp⟩)) x) : β.dom i := by
 cases h with
 | ptrObj h => exact .inl ⟨_, h⟩
 | ptrArr h => exact .inr ⟨_, _, h⟩
def NoHit {α : Type} (p : α → Prop) (l : List α) (i : Nat) : Prop := ∀ j x, j < i → l[j]? = some x → ¬ p x
theorem NoHit.zero {α : Type} {p : α → Prop} {l : List α} : NoHit p l 0 := fun j x h => absurd h (Nat.not_lt_zero j)
theorem NoHit.succ {α : Type} {p : α → Prop} {l : List α} {i : Nat} {x : α} (h : NoHit p l i) (hx : l[i]? = some x) (hp : ¬ p x) : NoHit p l (i + 1) := fun j y hj hy => by
 by_cases e : j = i
 ·subst e;rw [hx] at hy;obtain rfl := Option.some.inj hy;exact hp
 ·exact h j y Z4 hy
theorem NoHit.none {α : Type} {p : α → Prop} {l : List α} {i : Nat} (h : NoHit p l i) (hi : ¬ i < l.length) : ¬ ∃ x ∈ l, p x := by
 rintro ⟨x, hx, hp⟩;obtain ⟨j, hj, rfl⟩ := List.getElem_of_mem hx;exact h j _ Z4 (List.getElem?_eq_getElem hj) hp
def fidx {α : Type} (p : α → Prop) [DecidablePred p] (l : List α) : Int := match l.findIdx? (fun x => decide (p x)) with | some i => ((i : Nat) : Int) | none => -1
theorem fidx_hit {α : Type} {p : α → Prop} [DecidablePred p] {l : List α} {i : Nat} {x : α} (h : NoHit p l i) (hx : l[i]? = some x) (hp : p x) : fidx p l = ((i : Nat) : Int) := by
 have : l.findIdx? (fun x => decide (p x)) = some i := by
  rw [List.findIdx?_eq_some_iff_getElem];have hi := (List.getElem?_eq_some_iff.1 hx).1;refine ⟨hi, ?_, fun j hj => ?_⟩
  ·rw [(List.getElem?_eq_some_iff.1 hx).2]; simpa using hp
  ·simpa using h j _ hj (List.getElem?_eq_getElem Z4)
 unfold fidx;rw [this]
theorem fidx_none {α : Type} {p : α → Prop} [DecidablePred p] {l : List α} (h : ¬ ∃ x ∈ l, p x) : fidx p l = -1 := by
 have : l.findIdx? (fun x => decide (p x)) = none := by
  rw [List.findIdx?_eq_none_iff];intro x hx;simpa using fun hp => h ⟨x, hx, hp⟩
 unfold fidx;rw [this]
noncomputable def tf (p : Prop) : Bool := @decide p (Classical.propDecidable p)
theorem tf_t {p : Prop} (h : tf p = true) : p := @of_decide_eq_true p (Classical.propDecidable p) h
theorem tf_f {p : Prop} (h : tf p = false) : ¬ p := @of_decide_eq_false p (Classical.propDecidable p) h
theorem tf_true {p : Prop} (h : p) : tf p = true := @decide_eq_true p (Classical.propDecidable p) h
theorem tf_false {p : Prop} (h : ¬ p) : tf p = false := @decide_eq_false p (Classical.propDecidable p) h
theorem tf_decide {p : Prop} [i : Decidable p] : tf p = decide p := by
 by_cases h : p
 ·rw [tf_true h, decide_eq_true h]
 ·rw [tf_false h, decide_eq_false h]
def NoI (p : Nat → Prop) (i : Nat) : Prop := ∀ j, j < i → ¬ p j
theorem NoI.zero {p : Nat → Prop} : NoI p 0 := fun j h => absurd h (Nat.not_lt_zero j)
theorem NoI.succ {p : Nat → Prop} {i : Nat} (h : NoI p i) (hp : ¬ p i) : NoI p (i + 1) := fun j hj => by
 by_cases e : j = i
 ·subst e; exact hp
 ·exact h j Z4
theorem NoI.none {p : Nat → Prop} {i n : Nat} (h : NoI p i) (hi : ¬ i < n) : ¬ ∃ j, j < n ∧ p j := fun ⟨j, h1, h2⟩ => h j Z4 h2
theorem hit {α : Type} {p : α → Prop} {l : List α} {i : Nat} {x : α} (hx : l[i]? = some x) (hp : p x) : ∃ x ∈ l, p x := ⟨x, List.mem_of_getElem? hx, hp⟩
theorem load_rowL1 {α : Type} {f : α → List Value} {l : List α} {sz : Nat} {C : Cfg} {s : St} {t : TypeId} {o : Nat} (ht : oneTy C t = true) (hf : ∀ x, (f x).length = sz) {id i : Nat} {x : α} {v : Value} (hg : s.get id = some (rowL f l)) (hi : l[i]? = some x) (hv : (f x)[o]? = some v) : loadV C s t (.pointer (some ⟨id, i * sz + o, some (l.length * sz)⟩)) = some v := by
 have hl := (List.getElem?_eq_some_iff.1 hi).1;have ho : o < sz := Z10
 have hm := Nat.mul_le_mul_right sz (show i + 1 ≤ l.length from hl);rw [Nat.succ_mul] at hm;have hlen := flatL_len (l := l) hf;have h1 : ((flatL f l).drop (i * sz + o)).take 1 = [v] := by
  rw [flatL_sub hf hi Z4];rw [List.drop_eq_getElem_cons Z26];rw [List.getElem?_eq_getElem Z26] at hv;rw [Option.some.inj hv];rfl
 unfold oneTy at ht;split at ht
 ·rename_i ty hty;have ht : TypeDesc.agg ty.desc = false := by simpa using ht
  unfold loadV;rw [hty];simp only [ht, Bool.false_eq_true, if_false, St.cellsAt, hg, rowL];rw [if_pos ⟨Nat.zero_le _, by rw [hlen]; exact Nat.le_refl _, Z4⟩, h1]
 ·cases ht
theorem slL_iff {i j sz n m : Nat} : slL i sz n = slL j sz m ↔ i = j ∧ n = m := by
 simp only [slL, Value.slice.injEq, Option.some.injEq, Addr.mk.injEq];constructor
 ·rintro ⟨⟨h, _⟩, h2, _⟩; exact ⟨h, h2⟩
 ·rintro ⟨rfl, rfl⟩; simp
theorem below_len {n k : Nat} {p : Nat → Prop} (h : Nat.ble n k = true) (hk : ∀ j, j < k → p j) : ∀ j, j < n → p j := fun j hj => hk j (Nat.lt_of_lt_of_le hj (Nat.le_of_ble_eq_true h))
theorem injA : (∀ {α : Type} (a : α) (s : List α) (b : α) (t : List α), (a :: s = b :: t) = (a = b ∧ s = t)) ∧ (∀ p : Prop, (p ∧ True) = p) ∧ (∀ p : Prop, (True ∧ p) = p) ∧ (∀ m n : Nat, ((m : Int) = (n : Int)) ↔ m = n) ∧ (∀ a b : UInt8, a.toNat = b.toNat ↔ a = b) ∧
  (∀ k x l y, (Value.int k x = Value.int l y) = (k = l ∧ x = y)) ∧ (∀ a b, (Value.bool a = Value.bool b) = (a = b)) ∧ (∀ a b, (Value.string a = Value.string b) = (a = b)) ∧ (∀ a b, (Value.agg a = Value.agg b) = (a = b)) ∧ (∀ (a b : List Value), (Array.mk a = Array.mk b) = (a = b)) :=
 ⟨List.cons.injEq, and_true, true_and, fun _ _ => Int.natCast_inj, fun _ _ => UInt8.toNat_inj, Value.int.injEq, Value.bool.injEq, Value.string.injEq, Value.agg.injEq, Array.mk.injEq⟩
theorem injB : (∀ a b, (Value.pointer a = Value.pointer b) = (a = b)) ∧ (∀ {α : Type} (a b : α), (some a = some b) = (a = b)) ∧ (∀ a b c d e f, (Addr.mk a b c = Addr.mk d e f) = (a = d ∧ b = e ∧ c = f)) ∧ (∀ a b c d e f, (Value.func a b c = Value.func d e f) = (a = d ∧ b = e ∧ c = f)) ∧ (∀ a b, (AObj.cells a = AObj.cells b) = (a = b)) ∧ (∀ a b c d e f, (AObj.arr a b c = AObj.arr d e f) = (a = d ∧ b = e ∧ c = f)) ∧ (∀ i j sz n m, slL i sz n = slL j sz m ↔ i = j ∧ n = m) :=
 ⟨Value.pointer.injEq, Option.some.injEq, Addr.mk.injEq, Value.func.injEq, (fun _ _ => propext ⟨fun h => (AObj.cells.inj h).1, fun h => by rw [h]⟩), AObj.arr.injEq, fun _ _ _ _ _ => slL_iff⟩
end Go.Ai
/-
  Contracts of calls that hand back new things; what is handed back, frozen, beside things that are changed; '== nil' of tokens.
-/
namespace Go.Ai
section
variable {P : Program} {C : Cfg} {G : Nat} {rc : Rec} {e : Env} {s : St}
end
theorem asRows_refl {id : Nat} : ∀ l : List Value, AsRows id l l
 | [] => trivial
 | _ :: l => ⟨.inl rfl, asRows_refl l⟩
theorem asRows_mid {id : Nat} {v v2 : Value} (h : AsRow id v v2) {b : List Value} : ∀ a : List Value, AsRows id (a ++ v :: b) (a ++ v2 :: b)
 | [] => ⟨h, asRows_refl b⟩
 | _ :: a => ⟨.inl rfl, asRows_mid h a⟩
theorem asObj_refl {id : Nat} : ∀ o : Option AObj, AsObj id o o
  | none => rfl
  | some o => by
    cases o with
    | cells a => exact ⟨rfl, asRows_refl a⟩
    | _ => rfl
theorem virt_cell {P : Program} {G : Nat} {fid : FuncId} {c : Code} {s : St} {Q : Out → Env → St → Prop} {n : Nat} {m : T Value} {lv : List (Nat × Value)} (d j off sz : Nat) (a b : List Value) (hz : 0 < sz) (hs : s.WF) (hj : s.get j = some (.cells (a ++ .slice none 0 0 :: b))) (hd : lk lv d = some (.pointer (some ⟨j, off, none⟩))) (hdn : d < n)
  (h : SK P G fid c (envOf n m lv) ((s.set j (.cells (a ++ slL s.n sz 0 :: b))).new (.arr [] 0 false)) Q) : SK P G fid c (envOf n m lv) s Q := by
 have hlt : j < s.n := hs.lt hj;refine sk_virt (envOf n m lv) _ rfl (fun _ _ => .inl rfl) rfl ((hs.set hj).new _) (by rw [St.get_new, St.n_set, if_pos rfl]) (fun i hi => ?_) (fun i hi => ?_) h
 ·rw [St.get_new, St.n_set, if_neg Z4, St.get_set];by_cases e : i = j
  ·subst e;rw [if_pos rfl, hj];exact ⟨rfl, asRows_mid (.inr (.inl ⟨rfl, sz, hz, by unfold slL; rw [Nat.zero_mul]⟩)) a⟩
  ·rw [if_neg e];exact asObj_refl _
 ·rw [St.get_new, St.n_set, if_neg Z4, St.get_set];by_cases e : i = j
  ·subst e;refine .inr fun β t he => ?_
   have := he.at_ d (by rw [envOf_n]; exact hdn);rw [envOf_get hdn, hd] at this;exact this.dom_ptr
  ·rw [if_neg e];exact .inl rfl
def newAll (M : Nat → AObj) : Nat → Nat → St → St
 | _, 0, s => s
 | a, m + 1, s => newAll M (a + 1) m (s.new (M a))
theorem newAll_n {M : Nat → AObj} : ∀ {m a : Nat} {s : St}, (newAll M a m s).n = s.n + m
 | 0, _, _ => rfl
 | m + 1, a, s => by unfold newAll; rw [newAll_n, St.n_new]; omega
theorem newAll_old {M : Nat → AObj} {j : Nat} : ∀ {m a : Nat} {s : St}, j < s.n → (newAll M a m s).get j = s.get j
  | 0, _, _, _ => rfl
  | m + 1, a, s, h => by
    unfold newAll;rw [newAll_old Z0x, St.get_new, if_neg Z4]
theorem newAll_get {M : Nat → AObj} {j : Nat} : ∀ {m a : Nat} {s : St}, j < m → (newAll M a m s).get (s.n + j) = some (M (a + j))
  | 0, _, _, h => absurd h (Nat.not_lt_zero _)
  | m + 1, a, s, h => by
    unfold newAll;cases j with
    | zero =>
      rw [newAll_old Z0x, St.get_new, if_pos (Nat.add_zero _)];rfl
    | succ j =>
      have := newAll_get (M := M) (j := j) (m := m) (a := a + 1) (s := s.new (M a)) Z4;rw [St.n_new] at this;rw [show s.n + (j + 1) = s.n + 1 + j from Z4, this, show a + (j + 1) = a + 1 + j from Z4]
theorem newAll_wf {M : Nat → AObj} : ∀ {m a : Nat} {s : St}, s.WF → (newAll M a m s).WF
 | 0, _, _, h => h
 | m + 1, a, s, h => by unfold newAll; exact newAll_wf (h.new _)
theorem newAll_grow {M : Nat → AObj} : ∀ {m a : Nat} {s : St}, s.WF → Grow s (newAll M a m s)
 | 0, _, _, _ => .refl _
 | m + 1, a, s, h => by unfold newAll; exact (Grow.new s h _).trans (newAll_grow (h.new _))
theorem newAll_par {M N : Nat → AObj} : ∀ {m a : Nat} {s : St}, (∀ b, a ≤ b → b < a + m → M b = N b) → newAll M a m s = newAll N a m s
  | 0, _, _, _ => rfl
  | m + 1, a, s, h => by
    unfold newAll;rw [h a (Nat.le_refl _) Z4, newAll_par fun b h1 h2 => h b Z4 Z4]
structure SmallN (P : Program) (G : Nat) (f : FuncId) (α : Type) where
 k : Nat
 m : Nat
 A : α → (Nat → Nat) → List Value
 M : α → (Nat → Nat) → Nat → AObj
 M1 : α → (Nat → Nat) → Nat → AObj
 V : α → (Nat → Nat) → Value
 Pre : α → Prop
 ch : List Nat
 N : Nat
 s0 : α → St
 hch : ∀ a ∈ ch, a < k
 hsame : ∀ x ρ a, a < k → a ∉ ch → M1 x ρ a = M x ρ a
 hG : gl G = 0
 hn : ∀ x, (s0 x).n = k
 hwf : ∀ x, (s0 x).WF
 hget : ∀ x a, a < k → (s0 x).get a = some (M x id a)
 noloop : ∀ x ρ a, a < k → ¬ isLoop (some (M x ρ a))
 inA : ∀ x ρ (R : Nat → Option Nat → Nat → Prop), (∀ a sp, a < k → R (ρ a) sp a) → Subs R (A x ρ) (A x id)
 inM : ∀ x ρ (R : Nat → Option Nat → Nat → Prop), (∀ a sp, a < k → R (ρ a) sp a) → ∀ a, a < k → OSub R (M x ρ a) (M x id a)
 outM : ∀ x σ ρ (R : Nat → Option Nat → Nat → Prop), (∀ a sp, a < k + m → R (σ a) sp (ρ a)) → ∀ a, a < k + m → OSub R (M1 x σ a) (M1 x ρ a)
 outV : ∀ x σ ρ (R : Nat → Option Nat → Nat → Prop), (∀ a sp, a < k + m → R (σ a) sp (ρ a)) → Sub R (V x σ) (V x ρ)
 dom : ∀ x ρ a, a ∈ ch → (∀ (β : Bij) y, VRs β (A x ρ) y → β.dom (ρ a)) ∨ (∀ σ, (∀ a, a < k → σ a = a) → M1 x σ a = M x id a → M1 x ρ a = M x ρ a)
 sc : ∀ x, Pre x → SC P G f (A x id) (s0 x) fun v s' => ∃ σ : Nat → Nat, (∀ a, a < k → σ a = a) ∧ (∀ a, k ≤ a → a < k + m → k ≤ σ a ∧ σ a < s'.n) ∧ (∀ a b, a < k + m → b < k + m → σ a = σ b → a = b) ∧ v = V x σ ∧ s'.n ≤ N ∧ ∀ a, a < k + m → s'.get (σ a) = some (M1 x σ a)
 det : ∀ x ρ y σ (s : St), A x ρ = A y σ → (∀ a, a < k → s.get (ρ a) = some (M x ρ a)) → (∀ a, a < k → s.get (σ a) = some (M y σ a)) → x = y ∧ ∀ a, a < k → ρ a = σ a
 par : ∀ x ρ σ, (∀ a, a < k + m → ρ a = σ a) → V x ρ = V x σ ∧ ∀ a, a < k + m → M1 x ρ a = M1 x σ a
section
variable {P : Program} {G : Nat} {f : FuncId} {α : Type}
def SmallN.rel (S : SmallN P G f α) (args : List Value) (s : St) (v : Value) (s' : St) : Prop :=
 ∃ x ρ, S.Pre x ∧ (∀ a b, a < S.k → b < S.k → ρ a = ρ b → a = b) ∧ args = S.A x ρ ∧ (∀ a, a < S.k → s.get (ρ a) = some (S.M x ρ a)) ∧ (∀ a, S.k ≤ a → a < S.k + S.m → ρ a = s.n + (a - S.k)) ∧ v = S.V x ρ ∧ s' = newAll (S.M1 x ρ) S.k S.m (setAll ρ (S.M1 x ρ) S.ch s)
theorem setAll_wf {ρ : Nat → Nat} {M : Nat → AObj} : ∀ (l : List Nat) (s : St), (∀ a ∈ l, ρ a < s.n) → s.WF → (setAll ρ M l s).WF
  | [], s, _, h => h
  | b :: l, s, hl, h => by
    refine setAll_wf l _ (fun a ha => ?_) ?_
    · rw [St.n_set]; exact hl a (List.mem_cons_of_mem _ ha)
    · intro i hi
      rw [St.n_set] at hi;rw [St.get_set, if_neg (by have := hl b (List.mem_cons_self ..); omega)];exact h i hi
theorem SmallN.grow1 (S : SmallN P G f α) {x : α} {ρ : Nat → Nat} {s : St} (hg : ∀ a, a < S.k → s.get (ρ a) = some (S.M x ρ a)) : Grow s (setAll ρ (S.M1 x ρ) S.ch s) := by
 refine ⟨by rw [setAll_n]; exact Nat.le_refl _, fun l hl => ?_⟩;by_cases h : ∃ a, a < S.k ∧ ρ a = l
 ·obtain ⟨a, ha, rfl⟩ := h;rw [hg a ha] at hl;exact absurd hl (S.noloop x ρ a ha)
 ·rw [setAll_far (fun a ha e => h ⟨a, S.hch a ha, e⟩)];exact hl
open Classical in
noncomputable def SmallN.con (S : SmallN P G f α) : Con P G where
 f := f
 rel := S.rel
 ok := by
  rintro args s v s' ⟨x, ρ, hp, inj, rfl, hg, hnew, rfl, rfl⟩ hsw
  have hlt : ∀ a, a < S.k → ρ a < s.n := fun a ha => hsw.lt (hg a ha)
  have injA : ∀ a b, a < S.k + S.m → b < S.k + S.m → ρ a = ρ b → a = b := fun a b h1 h2 e => by
   by_cases ha : a < S.k <;> by_cases hb : b < S.k
   ·exact inj a b ha hb e
   ·have := hlt a ha; rw [hnew b (by omega) h2] at e; omega
   ·have := hlt b hb; rw [hnew a (by omega) h1] at e; omega
   ·rw [hnew a (by omega) h1, hnew b (by omega) h2] at e; omega
  have F : Fit G S.k ρ s (S.s0 x) := ⟨S.hn x, fun a b h1 h2 e => .inl (inj a b h1 h2 e), fun a h1 => hlt a h1, fun a ha => by
   rw [hg a ha, S.hget x a ha]
   exact S.inM x ρ _ (fun a sp h => ⟨h, rfl⟩) a ha, fun g hg => by rw [S.hG] at hg; omega, S.hwf x⟩
  refine sc_frame (fun _ _ => False) F S.N (fun _ _ _ _ _ h => h.elim) (S.inA x ρ _ fun a sp h => ⟨h, rfl⟩) (S.sc x hp) ?_ hsw
  rintro _ v0 s0' ⟨σ, s1, s2, s3, rfl, hN, h1⟩ hw0 hgr
  let τ : Nat → Option Nat := fun j => if h : ∃ a, a < S.k + S.m ∧ σ a = j then some (ρ h.choose) else none
  have hτ : ∀ a, a < S.k + S.m → τ (σ a) = some (ρ a) := fun a ha => by
   have h : ∃ b, b < S.k + S.m ∧ σ b = σ a := ⟨a, ha, rfl⟩
   show (if h : ∃ b, b < S.k + S.m ∧ σ b = σ a then some (ρ h.choose) else none) = _
   rw [dif_pos h, s3 _ _ h.choose_spec.1 ha h.choose_spec.2]
  have hτi : ∀ j y, τ j = some y → ∃ a, a < S.k + S.m ∧ σ a = j ∧ y = ρ a := fun j y h => by
   by_cases hx : ∃ a, a < S.k + S.m ∧ σ a = j
   ·obtain ⟨a, ha, rfl⟩ := hx
    rw [hτ a ha] at h
    exact ⟨a, ha, rfl, (Option.some.inj h).symm⟩
   ·have h : (if h : ∃ a, a < S.k + S.m ∧ σ a = j then some (ρ h.choose) else none) = some y := h
    rw [dif_neg hx] at h
    cases h
  have hR : ∀ a sp, a < S.k + S.m → Ways S.k ρ τ (fun _ _ => False) (σ a) sp (ρ a) := fun a sp ha => .inl (hτ a ha)
  have hold : ∀ i, i < S.k → τ i = some (ρ i) := fun i hi => by rw [← s1 i hi, hτ i (by omega), s1 i hi]
  have hsn : (setAll ρ (S.M1 x ρ) S.ch s).n = s.n := setAll_n
  have hbig : ∀ a, a < S.k + S.m → (newAll (S.M1 x ρ) S.k S.m (setAll ρ (S.M1 x ρ) S.ch s)).get (ρ a) = some (S.M1 x ρ a) := fun a ha => by
   by_cases hk : a < S.k
   ·rw [newAll_old (by rw [hsn]; exact hlt a hk), setAll_get inj S.hch a hk]
    by_cases hc : a ∈ S.ch
    ·rw [if_pos hc]
    ·rw [if_neg hc, hg a hk, S.hsame x ρ a hk hc]
   ·have := newAll_get (M := S.M1 x ρ) (a := S.k) (m := S.m) (j := a - S.k) (s := setAll ρ (S.M1 x ρ) S.ch s) (by omega)
    rw [hsn] at this
    rw [hnew a (by omega) ha, this, show S.k + (a - S.k) = a from by omega]
  have hwf1 : (setAll ρ (S.M1 x ρ) S.ch s).WF := setAll_wf _ _ (fun a ha => hlt a (S.hch a ha)) hsw
  refine ⟨hN, τ, _, _, ⟨rfl, rfl⟩, S.outV x σ ρ _ hR, ?_, fun a ha => ?_⟩
  ·refine ⟨fun j hj => .inl (hold j hj), (fun j j' hj _ _ h => by rw [hold j hj] at h; cases h), fun j y hj h => ?_, fun j j' y h h' => ?_, fun j y h => ?_, fun j hj hn => ?_, by rw [newAll_n, hsn]; omega, newAll_wf hwf1, (S.grow1 hg).trans (newAll_grow hwf1)⟩
   ·obtain ⟨a, ha, rfl, rfl⟩ := hτi j y h
    have hk : ¬ a < S.k := fun q => by rw [s1 a q] at hj; omega
    have := s2 a (by omega) ha
    rw [newAll_n, hsn, hnew a (by omega) ha]
    omega
   ·obtain ⟨a, ha, rfl, rfl⟩ := hτi j y h
    obtain ⟨b, hb, rfl, e⟩ := hτi j' _ h'
    rw [injA a b ha hb e]
   ·obtain ⟨a, ha, rfl, rfl⟩ := hτi j y h
    rw [h1 a ha, hbig a ha]
    exact S.outM x σ ρ _ hR a ha
   ·rw [newAll_old (by rw [hsn]; exact hj)]
    exact setAll_far fun a ha => hn a (S.hch a ha)
  ·by_cases hc : a ∈ S.ch
   ·rcases S.dom x ρ a hc with h | h
    ·exact .inl h
    ·refine .inr fun e => ?_
     have := h1 a (by omega)
     rw [s1 a ha] at this
     rw [this, S.hget x a ha] at e
     rw [hbig a (by omega), hg a ha, h σ s1 (Option.some.inj e)]
   ·exact .inr fun _ => by rw [hbig a (by omega), hg a ha, S.hsame x ρ a ha hc]
 grow := by
  rintro args s v s' ⟨x, ρ, hp, inj, rfl, hg, hnew, rfl, rfl⟩ hw
  have hwf1 : (setAll ρ (S.M1 x ρ) S.ch s).WF := setAll_wf _ _ (fun a ha => hw.lt (hg a (S.hch a ha))) hw
  exact ⟨newAll_wf hwf1, (S.grow1 hg).trans (newAll_grow hwf1)⟩
 det := by
  rintro args s v s' v1 s1 ⟨x, ρ, hp, inj, rfl, hg, hnew, rfl, rfl⟩ ⟨y, σ, _, _, e, hg', hnew', rfl, rfl⟩
  obtain ⟨rfl, hρ⟩ := S.det x ρ y σ s e hg hg'
  have hall : ∀ a, a < S.k + S.m → ρ a = σ a := fun a ha => by
   by_cases h : a < S.k
   ·exact hρ a h
   ·rw [hnew a (by omega) ha, hnew' a (by omega) ha]
  obtain ⟨e1, e2⟩ := S.par x ρ σ hall
  refine ⟨e1.symm, ?_⟩
  rw [setAll_par hρ (fun a ha => e2 a (by omega)) S.hch]
  exact (newAll_par fun b h1 h2 => e2 b h2).symm
theorem nodup_rho {ids : List Nat} (hn : nodupB ids = true) : ∀ a b, a < ids.length → b < ids.length → rhoL ids a = rhoL ids b → a = b := by
  induction ids with
  | nil => intro a b h; cases h
  | cons y l ih =>
    intro a b h1 h2 e;simp only [nodupB, Bool.and_eq_true, Bool.not_eq_true', List.any_eq_false] at hn;have no : ∀ c, c < l.length → y ≠ rhoL l c := fun c hc he => by
      have : rhoL l c ∈ l := by
        unfold rhoL;rw [List.getD_eq_getElem?_getD, List.getElem?_eq_getElem hc];exact List.getElem_mem hc
      have := hn.1 _ this;rw [← he] at this;exact this (Nat.beq_refl _)
    cases a with
    | zero =>
      cases b with
      | zero => rfl
      | succ b => exact absurd e (no b Z1q)
    | succ a =>
      cases b with
      | zero => exact absurd e.symm (no a Z1e)
      | succ b => rw [ih hn.2 a b Z1e Z1q e]
theorem SmallN.at_ (S : SmallN P G f α) (x : α) (ids : List Nat) (s s' : St) {args : List Value} {v : Value} (hp : S.Pre x) (hl : (ids.take S.k).length = S.k) (hn : nodupB (ids.take S.k) = true) (ha : args = S.A x (rhoL ids)) (hg : ∀ a, a < S.k → s.get (rhoL ids a) = some (S.M x (rhoL ids) a)) (hnew : ∀ a, S.k ≤ a → a < S.k + S.m → rhoL ids a = s.n + (a - S.k)) (hv : v = S.V x (rhoL ids)) (hs : s' = newAll (S.M1 x (rhoL ids)) S.k S.m (setAll (rhoL ids) (S.M1 x (rhoL ids)) S.ch s)) :
  S.con.rel args s v s' := by
 refine ⟨x, rhoL ids, hp, fun a b h1 h2 e => ?_, ha, hg, hnew, hv, hs⟩;have key : ∀ a, a < S.k → rhoL (ids.take S.k) a = rhoL ids a := fun a ha => by
  unfold rhoL;rw [List.getD_eq_getElem?_getD, List.getD_eq_getElem?_getD, List.getElem?_take_of_lt ha]
 exact nodup_rho hn a b Z4 Z4 (by rw [key a h1, key b h2, e])
end
theorem new_all {k m : Nat} {p : Nat → Nat → Prop} (h : ∀ b, b < m → p (k + b) b) : ∀ a, k ≤ a → a < k + m → p a (a - k) := fun a h1 h2 => by
 have := h (a - k) Z4
 rwa [show k + (a - k) = a from Z4] at this
end Go.Ai
/-
  Bytes; numbers of 64 bits as naturals; varints.
-/
namespace Go.Ai
theorem row_iff {α : Type} {f : α → List Value} {sz : Nat} (hz : 0 < sz) (hf : ∀ x, (f x).length = sz) (hi : ∀ {a b : List α}, inlL f sz a = inlL f sz b ↔ a = b) {a b : List α} : rowL f a = rowL f b ↔ a = b := by
 refine ⟨fun h => ?_, fun h => by rw [h]⟩;simp only [rowL, AObj.arr.injEq, and_true] at h;have hl : a.length * sz = b.length * sz := by have := congrArg List.length h; rwa [flatL_len hf, flatL_len hf] at this
 exact hi.1 (by rw [inlL, inlL, h, Nat.eq_of_mul_eq_mul_right hz hl])
def bstr (l : List UInt8) : ByteArray := ⟨l.toArray⟩
theorem bstr_list (l : List UInt8) : (bstr l).toList = l := by rw [ByteArray.toList_eq]; rfl
theorem bstr_eq (a b : List UInt8) : ((bstr a).toList == (bstr b).toList) = decide (a = b) := by
 rw [bstr_list, bstr_list];by_cases h : a = b <;> simp [h]
section
variable {C : Cfg} {s : St} {l : List UInt8}
end
def u64 (n : Int) : Nat := (n % 18446744073709551616).toNat
theorem wrap_u64 (n : Int) : IntKind.wrap .u64 n = ((u64 n : Nat) : Int) := by
 unfold IntKind.wrap u64;simp [IntKind.bits, IntKind.signed]
 omega
theorem u64_nat {n : Nat} (h : n < 18446744073709551616) : u64 (n : Int) = n := by unfold u64; omega
def in64 (n : Int) : Prop := -9223372036854775808 ≤ n ∧ n < 9223372036854775808
theorem u64_to {z : Int} {n : Nat} (h : z = ((n : Nat) : Int)) (h2 : n < 18446744073709551616) : IntKind.wrap .u64 z = ((n : Nat) : Int) := by rw [h, wrap_u64, u64_nat h2]
theorem quo_nat {x y : Nat} (h : x < 18446744073709551616) {m : Int} (hm : m = ((y : Nat) : Int)) : IntKind.wrap .u64 (Int.tdiv (x : Int) m) = ((x / y : Nat) : Int) := by
 subst hm;refine u64_to (Int.ofNat_tdiv x y).symm ?_;have := Nat.div_le_self x y;omega
theorem rem_nat {x y : Nat} {m : Int} (hm : m = ((y : Nat) : Int)) : Int.tmod (x : Int) m = ((x % y : Nat) : Int) := by
 subst hm;exact (Int.ofNat_tmod x y).symm
theorem bstr_t {a b : List UInt8} (h : ((bstr a).toList == (bstr b).toList) = true) : a = b := by
 rw [bstr_eq] at h; exact of_decide_eq_true h
theorem bstr_f {a b : List UInt8} (h : ((bstr a).toList == (bstr b).toList) = false) : ¬ a = b := by
 rw [bstr_eq] at h; exact of_decide_eq_false h
theorem take_eq_succ {α : Type} {a b : List α} {i : Nat} {x y : α} (h : a.take i = b.take i) (hx : a[i]? = some x) (hy : b[i]? = some y) (e : x = y) : a.take (i + 1) = b.take (i + 1) := by
 rw [List.take_add_one, List.take_add_one, h, hx, hy, e]
theorem ne_at {α : Type} {a b : List α} {i : Nat} {x y : α} (hx : a[i]? = some x) (hy : b[i]? = some y) (e : ¬ x = y) : ¬ a = b := by
 rintro rfl;rw [hx] at hy;exact e (Option.some.inj hy)
theorem take_all {α : Type} {a b : List α} {i : Nat} (h : a.take i = b.take i) (h1 : ¬ i < a.length) (h2 : a.length = b.length) : a = b := by
 rw [List.take_of_length_le Z4, List.take_of_length_le Z4] at h;exact h
end Go.Ai
/-
  Effects in drawn regions, behind looks at what they leave alone.
-/
namespace Go.Ai
section
variable {P : Program} {C : Cfg} {G : Nat} {rc : Rec} {e : Env} {s : St}
def rd0 : Nat × Op × Env × Value := (0, .alloc 0, ⟨0, .e⟩, .nilIface)
theorem rc_eq {t : Task} {v v2 : Value} {s' : St} (h : rc t s = .ret (.val v, s')) (q : v = v2) : rc t s = .ret (.val v2, s') := q ▸ h
theorem effLog {ops : Array Oper} {i : Nat} {o : Oper} {L : Log} {v : Value} {s' : St} {d : Nat × Op × Env × Value} (hc : Nat.beq (Z2l C o.op) 3 = true)
  (hE : (L.effects.all fun x => ((Region.before ops).getD i 0).testBit x.1) = true)
  (hR : ∀ j, j < L.reads.length → ((Region.before ops).getD i 0).testBit (L.reads.getD j d).1 = true ∨ ∃ s'', Z2m C (L.reads.getD j d).2.2.1.eval s' (L.reads.getD j d).2.1 = some ((L.reads.getD j d).2.2.2, s'')) :
  drawLog C ops i o L e s v s' = some { L with effects := (i, s, s') :: L.effects } := by
 have hc := Nat.eq_of_beq_eq_true hc;unfold drawLog;rw [hc];simp only;rw [if_pos];rw [Bool.and_eq_true];refine ⟨hE, ?_⟩;rw [List.all_eq_true];intro x hx;obtain ⟨j, hj, rfl⟩ := List.getElem_of_mem hx;have := hR j hj;rw [List.getD_eq_getElem?_getD, List.getElem?_eq_getElem hj, Option.getD_some] at this;rcases this with h | ⟨s'', h⟩
 ·rw [h, Bool.true_or]
 ·rw [sameAgain_of h, Bool.or_true]
theorem ald_callE (f : FuncId) (args : List Value) (v : Value) (s' : St) {ops : Array Oper} {i : Nat} {o : Oper} {l : List Oper} {L : Log} {c : Call} {R : Env → St → Prop} {d : Nat × Op × Env × Value} (hop : o.op = .call c) (hb : ∀ b, c.callee ≠ .builtin b)
  (hw : Region.wanted o (Z2p ops e) = true) (ht : target C s e.eval c = some (.call f args)) (hc : rc (.call f args) s = .ret (.val v, s')) (hc3 : Nat.beq (Z2l C o.op) 3 = true)
  (hE : (L.effects.all fun x => ((Region.before ops).getD i 0).testBit x.1) = true)
  (hR : ∀ j, j < L.reads.length → ((Region.before ops).getD i 0).testBit (L.reads.getD j d).1 = true ∨ ∃ s'', Z2m C (L.reads.getD j d).2.2.1.eval s' (L.reads.getD j d).2.1 = some ((L.reads.getD j d).2.2.2, s''))
  (h : AllD C rc ops (i + 1) l { L with effects := (i, s, s') :: L.effects } (e.dst o.dst v) s' R) (hx0 : extV C (.call f args) = none := by kernel_rfl) : AllD C rc ops i (o :: l) L e s R := by
 refine ⟨?_⟩;rw [draw_one hw (one_callR hop hb ht hx0 hc) (effLog (s := s) hc3 hE hR)];exact h.all
theorem ald_opE {ops : Array Oper} {i : Nat} {o : Oper} {l : List Oper} {L : Log} {s1 : St} {v : Value} {R : Env → St → Prop} {d : Nat × Op × Env × Value} (hw : Region.wanted o (Z2p ops e) = true) (ho : oneOp C (fun _ _ => .fail) e s o.op = .ofOption (Z2m C e.eval s o.op))
  (hv : Z2m C e.eval s o.op = some (v, s1)) (hc3 : Nat.beq (Z2l C o.op) 3 = true) (hE : (L.effects.all fun x => ((Region.before ops).getD i 0).testBit x.1) = true)
  (hR : ∀ j, j < L.reads.length → ((Region.before ops).getD i 0).testBit (L.reads.getD j d).1 = true ∨ ∃ s'', Z2m C (L.reads.getD j d).2.2.1.eval s1 (L.reads.getD j d).2.1 = some ((L.reads.getD j d).2.2.2, s''))
  (h : AllD C rc ops (i + 1) l { L with effects := (i, s, s1) :: L.effects } (e.dst o.dst v) s1 R) : AllD C rc ops i (o :: l) L e s R :=
 ald_op _ hw hv ho (effLog (s := s) hc3 hE hR) h
end
end Go.Ai
namespace Go.Ai
section
variable {P : Program} {C : Cfg} {α : Type} {f : α → List Value} {sz : Nat} {s : St}
def rowM (f : α → List Value) (mv : Nat) (l : List α) : AObj := .arr (flatL f l) mv false
theorem flatL_set (hf : ∀ x, (f x).length = sz) : ∀ {l : List α} {i : Nat} {x : α}, i < l.length → splice (flatL f l) (i * sz) (f x) = flatL f (l.set i x)
  | [], i, x, h => absurd h (Nat.not_lt_zero _)
  | y :: l, 0, x, h => by
    have e1 : (f y ++ flatL f l).drop (f x).length = flatL f l := by rw [hf x, ← hf y, List.drop_left']; rfl
    show splice (f y ++ flatL f l) (0 * sz) (f x) = f x ++ flatL f l;unfold splice;rw [Nat.zero_mul, List.take_zero, List.nil_append, Nat.zero_add, e1]
  | y :: l, i + 1, x, h => by
    have ih := flatL_set hf (l := l) (i := i) (x := x) (Nat.lt_of_succ_lt_succ h);show splice (f y ++ flatL f l) ((i + 1) * sz) (f x) = f y ++ flatL f (l.set i x);rw [← ih];unfold splice;have e : (i + 1) * sz = (f y).length + i * sz := by rw [hf y, Nat.succ_mul, Nat.add_comm]
    have e2 : (f y).length + i * sz + (f x).length = (f y).length + (i * sz + (f x).length) := Z4
    rw [e, e2, List.take_length_add_append, List.drop_length_add_append, List.append_assoc, List.append_assoc, List.append_assoc]
end
end Go.Ai
namespace Go.Ai
end Go.Ai
/-
  Closed calls by their value; two contracts as one; letters of texts; cells at places that are reckoned; 32 bits.
-/
namespace Go.Ai
section
variable {P : Program} {C : Cfg} {G : Nat} {s : St}
def Con.or (a b : Con P G) (hf : b.f = a.f) (hx : ∀ args s v s' v1 s1, a.rel args s v s' → b.rel args s v1 s1 → False) : Con P G where
 f := a.f
 rel args s v s' := a.rel args s v s' ∨ b.rel args s v s'
 ok := by
  rintro args s v s' (h | h)
  ·exact a.ok _ _ _ _ h
  ·exact hf ▸ b.ok _ _ _ _ h
 grow := by
  rintro args s v s' (h | h)
  ·exact a.grow _ _ _ _ h
  ·exact b.grow _ _ _ _ h
 det := by
  rintro args s v s' v1 s1 (h | h) (h' | h')
  ·exact a.det _ _ _ _ _ _ h h'
  ·exact (hx _ _ _ _ _ _ h h').elim
  ·exact (hx _ _ _ _ _ _ h' h).elim
  ·exact b.det _ _ _ _ _ _ h h'
def txtTy (C : Cfg) (t : TypeId) : Bool :=
 match C.ty t with
 | some { desc := .string, .. } => true
 | _ => false
theorem bstr_size (l : List UInt8) : (bstr l).size = l.length := rfl
theorem bstr_get {l : List UInt8} {i : Nat} {x : UInt8} (h : l[i]? = some x) : (bstr l)[i]? = some x := by
 obtain ⟨hi, e⟩ := List.getElem?_eq_some_iff.1 h;rw [getElem?_pos (bstr l) i (by exact hi)];exact congrArg some e
theorem Z2k {t : TypeId} (ht : txtTy C t = true) {l : List UInt8} {i : Nat} {k : IntKind} {x : UInt8} (h : l[i]? = some x) : indexV C t (.string (bstr l)) (.int k ((i : Nat) : Int)) = some (.int .u8 ((x.toNat : Nat) : Int)) := by
 unfold txtTy at ht;split at ht
 ·rename_i hty;unfold indexV;rw [hty];simp only;rw [if_pos (Int.natCast_nonneg i), Int.toNat_natCast, bstr_get h];rfl
 ·cases ht
theorem load_sym {t : TypeId} (ht : oneTy C t = true) {id o : Nat} {cs : List Value} {v : Value} (hg : s.get id = some (.cells cs)) (hv : cs[o]? = some v) : loadV C s t (.pointer (some ⟨id, o, none⟩)) = some v := by
 have hl := (List.getElem?_eq_some_iff.1 hv).1;unfold oneTy at ht;split at ht
 ·rename_i ty hty;have ht : TypeDesc.agg ty.desc = false := by simpa using ht
  unfold loadV;rw [hty];simp only [ht, Bool.false_eq_true, if_false, St.cellsAt, hg];rw [if_pos Z4];have : (cs.drop o).take 1 = [v] := by
   rw [List.drop_eq_getElem_cons hl, List.take_succ_cons, List.take_zero];obtain ⟨_, e⟩ := List.getElem?_eq_some_iff.1 hv;rw [e]
  rw [this]
 ·cases ht
def oneSz (C : Cfg) (t : TypeId) : Bool :=
 match C.ty t with
 | some ty => Nat.beq ty.size 1
 | none => false
theorem store_sym {t : TypeId} (ht : oneSz C t = true) {id o : Nat} {cs cs2 : List Value} {v : Value} (h1 : one v = true) (hc : v.cells = #[v]) (hg : s.get id = some (.cells cs)) (ho : o < cs.length) (hs : splice cs o [v] = cs2) : storeV C s t (.pointer (some ⟨id, o, none⟩)) v = some (s.set id (.cells cs2)) := by
 unfold oneSz at ht;split at ht
 ·rename_i ty hty;have e := Nat.eq_of_beq_eq_true ht;unfold storeV;rw [hty];have hs2 : v.cells.size = ty.size := by rw [hc, e]; rfl
  refine (if_pos hs2).trans ?_;unfold St.putCells;simp only [hg, hc];rw [if_pos ⟨(show o + 1 ≤ cs.length from ho), Z1e⟩, hs]
 ·cases ht
theorem al_mapB {rc : Rec} {e : Env} (X : Option Value) (b : Bool) {ops : Array Oper} {o : Oper} {l : List Oper} {R : Env → St → Prop} (hw : Region.wanted o (Z2p ops e) = true) (ho : oneOp C (fun _ _ => .fail) e s o.op = .ofOption (Z2m C e.eval s o.op))
  (hv : Z2m C e.eval s o.op = X.map fun v => (v, s)) (hs : X = some (.bool b)) (ht : b = true → AllL C rc ops l (e.dst o.dst (.bool true)) s R) (hf : b = false → AllL C rc ops l (e.dst o.dst (.bool false)) s R) : AllL C rc ops (o :: l) e s R := by
 cases b with
 | true => exact al_map X _ hw ho hv hs (ht rfl)
 | false => exact al_map X _ hw ho hv hs (hf rfl)
theorem ald_mapB {rc : Rec} {e : Env} (X : Option Value) (b : Bool) {ops : Array Oper} {i : Nat} {o : Oper} {l : List Oper} {L : Log} {R : Env → St → Prop} (hw : Region.wanted o (Z2p ops e) = true) (ho : oneOp C (fun _ _ => .fail) e s o.op = .ofOption (Z2m C e.eval s o.op))
  (hv : Z2m C e.eval s o.op = X.map fun v => (v, s)) (hs : X = some (.bool b)) (hl : ∀ b, (drawLog C ops i o L e s (.bool b) s).isSome = true)
  (ht : b = true → AllD C rc ops (i + 1) l ((drawLog C ops i o L e s (.bool true) s).getD ⟨[], []⟩) (e.dst o.dst (.bool true)) s R) (hf : b = false → AllD C rc ops (i + 1) l ((drawLog C ops i o L e s (.bool false) s).getD ⟨[], []⟩) (e.dst o.dst (.bool false)) s R) : AllD C rc ops i (o :: l) L e s R := by
 cases b with
 | true => exact ald_mapL X _ hw ho hv hs (hl true) (ht rfl)
 | false => exact ald_mapL X _ hw ho hv hs (hl false) (hf rfl)
end
end Go.Ai
/-
  A row that is not written any more, told as a token from here on.
-/
namespace Go.Ai
def frzI (β : Bij) (i mv : Nat) (cs : List Value) (b j : Nat) (v : Value) : Prop :=
 β.ice b j v ∨ ∃ (hi idx : Nat) (L : ArrLoc), mv ≤ hi ∧ hi ≤ cs.length ∧ β.arr i hi = some L ∧ L.block = b ∧ L.lo ≤ idx ∧ idx < hi ∧ j = L.base + (idx - L.lo) ∧ cs[idx]? = some v
def frzB (β : Bij) (i mv : Nat) (cs : List Value) : Bij := { β with ice := frzI β i mv cs }
def frzO (i : Nat) (own : Nat → Option Nat) : Nat → Option Nat := fun b => if own b = some i then none else own b
theorem le_frz {β : Bij} {i mv : Nat} {cs : List Value} : β.le (frzB β i mv cs) := ⟨fun _ _ h => h, fun _ _ _ h => h, fun _ h => h, fun _ _ _ h => .inl h, fun _ _ h => h⟩
theorem frzO_none {i : Nat} {own : Nat → Option Nat} {b : Nat} (h : own b = none) : frzO i own b = none := by simp [frzO, h]
theorem frzO_ne {i j : Nat} {own : Nat → Option Nat} {b : Nat} (h : own b = some j) (hj : j ≠ i) : frzO i own b = some j := by simp [frzO, h, hj]
theorem frzO_i {i : Nat} {own : Nat → Option Nat} {b : Nat} (h : own b = some i) : frzO i own b = none := by simp [frzO, h]
theorem frzO_some {i j : Nat} {own : Nat → Option Nat} {b : Nat} (h : frzO i own b = some j) : own b = some j := by
 unfold frzO at h;split at h
 ·cases h
 ·exact h
def AsIce (i mv : Nat) (cs : List Value) (v v2 : Value) : Prop :=
 v2 = v ∨ ∃ hi n sz, v = .slice (some ⟨i, 0, some hi⟩) n sz ∧ mv ≤ hi ∧ hi ≤ cs.length ∧ 0 < sz ∧ n * sz ≤ hi ∧ v2 = inl n sz (cs.take (n * sz))
def AsIces (i mv : Nat) (cs : List Value) : List Value → List Value → Prop
 | [], [] => True
 | v :: l, v2 :: l2 => AsIce i mv cs v v2 ∧ AsIces i mv cs l l2
 | _, _ => False
def IceObj (i mv : Nat) (cs : List Value) : Option AObj → Option AObj → Prop
 | some (.cells a ta), some (.cells b tb) => ta = tb ∧ AsIces i mv cs a b
 | a, b => a = b
section
variable {P : Program} {G : Nat} {s : St} {β : Bij} {own : Nat → Option Nat} {w : World} {i mv : Nat} {cs : List Value}
theorem AsIce.vr (hs : SR (okK G) β own s.get w) (hg : s.get i = some (.arr cs mv false)) {v v2 x : Value} (h : AsIce i mv cs v v2) (hv : VR β v x) : VR (frzB β i mv cs) v2 x := by
  rcases h with rfl | ⟨hi, n, sz, rfl, hm, hl, hz, hn, rfl⟩
  · exact hv.mono le_frz
  · have key : ∀ {x : Value}, refy x = true → InlR (frzI β i mv cs) (.slice n sz (cs.take (n * sz)) []) x → VR (frzB β i mv cs) (inl n sz (cs.take (n * sz))) x := by
      intro x hr hx;refine .junk _ hr fun j hj => ?_
      rw [dec_code] at hj;obtain rfl := Option.some.inj hj;exact hx
    cases hv with
    | sliceVir h hz =>
      rw [Nat.zero_mul, List.take_zero] at key ⊢;exact key rfl (.none hz)
    | @sliceArr _ _ _ _ _ cap L c hL g1 g2 _ hb hcap _ =>
      refine key rfl ?_;by_cases h0 : n = 0
      · subst h0
        rw [Nat.zero_mul, List.take_zero];exact .empty hz
      · rcases hcap with ⟨rfl, hc1, hc2⟩ | ⟨h1, _⟩
        · have hlen : (cs.take (n * sz)).length = n * sz := by rw [List.length_take]; omega
          refine .slice hz hlen hc1 (by rw [hlen]; simpa using Nat.mul_le_mul_right sz hc1) fun j v hj => ?_
          rw [List.append_nil] at hj;have hjl : j < n * sz := by rw [← hlen]; exact (List.getElem?_eq_some_iff.1 hj).1
          rw [List.getElem?_take_of_lt hjl] at hj;exact .inr ⟨hi, j, L, hm, hl, hL, rfl, Z4, Z4, Z4, hj⟩
        · exact absurd h1 h0
theorem AsIces.vrs (hs : SR (okK G) β own s.get w) (hg : s.get i = some (.arr cs mv false)) : ∀ {l l2 x : List Value}, AsIces i mv cs l l2 → VRs β l x → VRs (frzB β i mv cs) l2 x
 | [], [], _, _, .nil => .nil
 | _ :: _, _ :: _, _, ⟨h, t⟩, .cons h' t' => .cons (h.vr hs hg h') (t.vrs hs hg t')
 | [], _ :: _, _, h, _ => h.elim
 | _ :: _, [], _, h, _ => h.elim
theorem sr_frz {s2 : St} (hs : SR (okK G) β own s.get w) (hg : s.get i = some (.arr cs mv false)) (hc : clo.cloL cs = true) (h1 : cs.all one = true) (hg2 : s2.get i = some (.arr cs mv true)) (hdom : ∀ j, β.dom j → j < s.n) (ho : ∀ j, j < s.n → j ≠ i → IceObj i mv cs (s.get j) (s2.get j)) :
    SR (okK G) (frzB β i mv cs) (frzO i own) s2.get w := by
  refine ⟨fun j b hb => ?_, fun j hi L hL cs' mv' ro hc' => ?_, hs.loc, hs.blk, hs.one, fun b j hb => hs.small _ _ (frzO_some hb), hs.vir, ⟨fun b j v hv => ?_, fun b n hv => let ⟨q1, q2, q3⟩ := hs.ice.fx b n hv; ⟨frzO_none q1, q2, q3⟩⟩⟩
  · obtain ⟨q1, q2, q3⟩ := hs.obj j b hb
    have hj : j ≠ i := fun e => by subst e; exact q3 _ hg
    refine ⟨frzO_ne q1 hj, q2, fun o hget => ?_⟩;have hlt := hdom j (.inl ⟨b, hb⟩);have ha := ho j hlt hj;cases hq : s.get j with
    | none =>
      rw [hq, hget] at ha;cases o <;> cases ha
    | some o1 =>
      have q4 := q3 o1 hq;rw [hq, hget] at ha;have same : o1 = o → ObjR (frzB β i mv cs) (okK G) o w.heap[b]? := fun e => e ▸ q4.mono le_frz
      cases o1 with
      | cells a =>
        cases o with
        | cells b2 =>
          obtain ⟨c, t, r1, r2, r3⟩ := q4;exact ⟨c, t, r1, AsIces.vrs hs hg ha.2 r2, ha.1 ▸ r3⟩
        | _ => cases ha
      | _ => cases ha; exact same rfl
  · have hlt := hdom j (.inr ⟨hi, L, hL⟩)
    by_cases hj : j = i
    · subst hj
      rw [hg2] at hc';obtain ⟨rfl, rfl, rfl⟩ := AObj.arr.inj (Option.some.inj hc');obtain ⟨r1, r2⟩ := hs.arr j hi L hL _ _ _ hg;refine ⟨r1, fun hm => ?_⟩;obtain ⟨⟨p1, p2, c, t, fr, p3, p4, p5, p6⟩, p7, p8⟩ := r2 hm;simp only [Bool.false_eq_true, if_false] at p8;exact ⟨⟨p1, p2, c, t, fr, p3, (fun h => Z02), p5, fun k x y => let ⟨v, v', a, b, d⟩ := p6 k x y; ⟨v, v', a, b, d.mono le_frz⟩⟩, p7, frzO_i p8⟩
    · have ha := ho j hlt hj
      rw [hc'] at ha;cases hq : s.get j with
      | none => rw [hq] at ha; cases ha
      | some o1 =>
        rw [hq] at ha;have : o1 = .arr cs' mv' ro := by cases o1 <;> cases ha <;> rfl
        subst this;obtain ⟨r1, r2⟩ := hs.arr j hi L hL _ _ _ hq;refine ⟨r1, fun hm => ?_⟩;obtain ⟨p1, p2, p3⟩ := r2 hm;refine ⟨p1.mono le_frz, p2, ?_⟩;cases ro with
        | true => exact frzO_none p3
        | false => exact frzO_ne p3 hj
  · rcases hv with hv | ⟨hi, idx, L, hm, hl, hL, rfl, h6, h7, rfl, h9⟩
    · obtain ⟨q1, q2, q3, q4, x, q5, q6⟩ := hs.ice.at_ b j v hv
      exact ⟨frzO_none q1, q2, q3, q4, x, q5, q6.mono le_frz⟩
    · obtain ⟨r1, r2⟩ := hs.arr i hi L hL cs mv false hg
      obtain ⟨⟨p1, p2, c, t, fr, p3, p4, p5, p6⟩, p7, p8⟩ := r2 hm;simp only [Bool.false_eq_true, if_false] at p8;refine ⟨frzO_i p8, p7, clo_all.1 hc v (List.mem_of_getElem? h9), List.all_eq_true.1 h1 v (List.mem_of_getElem? h9), ?_⟩;obtain ⟨u', x, q1, q2, q3⟩ := p6 idx h6 h7;rw [h9] at q1;obtain rfl := Option.some.inj q1;refine ⟨x, ?_, q3.mono le_frz⟩;unfold World.cell?;rw [p3];simpa using q2
variable {fid : FuncId} {c : Code} {e : Env} {Q : Out → Env → St → Prop}
theorem sk_frz (e2 : Env) (s2 : St) (hg : s.get i = some (.arr cs mv false)) (hc : clo.cloL cs = true) (h1 : cs.all one = true) (hn : e2.n = e.n) (he : ∀ j, j < e.n → AsIce i mv cs (e.get j) (e2.get j)) (hsn : s2.n = s.n) (hs2 : s2.WF) (hg2 : s2.get i = some (.arr cs mv true))
    (ho : ∀ j, j < s.n → j ≠ i → IceObj i mv cs (s.get j) (s2.get j)) (hd : ∀ (β : Bij) own w t, SR (okK G) β own s.get w → ER β e t → β.dom i ∧ ∀ j, j < s.n → j ≠ i → s2.get j = s.get j ∨ β.dom j) (h : SK P G fid c e2 s2 Q) : SK P G fid c e s Q := by
  intro hw β own w b t ds n0 q1 q2 q3 q4 q5 q6 q7 q8 q9 k0 cs0;have hin : i < s.n := hw.lt hg;have hsr := sr_frz q1 hg hc h1 hg2 q3 ho;have her : ER (frzB β i mv cs) e2 t := ⟨q4.size.trans hn.symm, fun j hj => (he j (hn ▸ hj)).vr q1 hg (q4.at_ j (hn ▸ hj))⟩;have hmk : Marks n0 ds (frzO i own) w := by
    obtain ⟨bs, m1, m2, m3⟩ := q8;exact ⟨bs, m1, m2, fun b hb => let ⟨x, y, z⟩ := m3 b hb; ⟨x, frzO_none y, z⟩⟩
  have hsh : Shut (frzB β i mv cs) s2 := fun j hj => by
    rw [hsn];refine q3 j ?_;rcases hj with hj | hj | hj
    · exact .inl hj
    · exact .inr hj
    · exact .vir hj
  obtain ⟨di, dj⟩ := hd β own w t q1 q4;obtain ⟨o, e', s', β', own', w', t', ds', r1, r2, r3, r4, r5, r6, r7, r8⟩ := h hs2 (frzB β i mv cs) (frzO i own) w b t ds n0 hsr ⟨q2.one, fun hg => ⟨(q2.tab hg).fx, fun j v hv => .inl ((q2.tab hg).ic j v hv)⟩, fun hg b hb => .inl (q2.err hg b hb), fun hg b hb => let ⟨m, q⟩ := q2.mx hg b hb; ⟨m, .inl q⟩⟩ hsh her q5 q6 q7 hmk q9 k0 cs0;have hdom : ∀ j, (frzB β i mv cs).dom j → β.dom j := by
    rintro j (hj | hj | hj)
    · exact .inl hj
    · exact .inr hj
    · exact .vir hj
  have hnn : s.n ≤ s'.n := hsn ▸ r4.nle;refine ⟨o, e', s', β', own', w', t', ds', r1, r2, ⟨hnn, fun l hl => ?_⟩, ⟨Bij.le_trans le_frz r4.le, fun j hj => ?_, hnn, fun j hj hdj => ?_, r4.size, fun b hb hob => ?_, r4.os, r4.tape, r4.output, r4.keep, fun j hj => ?_, r4.drawn⟩, r5, r6, r7, r8⟩
  · by_cases hlt : l < s.n
    · by_cases hli : l = i
      · subst hli; rw [hg] at hl; cases hl
      · refine r3.loop l ?_
        have ha := ho l hlt hli;cases hq : s.get l with
        | none => rw [hq] at hl; cases hl
        | some o1 =>
          rw [hq] at hl ha;cases o1 <;> first
            | cases hl; done
            | skip
          cases hq2 : s2.get l with
          | none => rw [hq2] at ha; cases ha
          | some o2 =>
            rw [hq2] at ha;cases o2 <;> cases ha
            exact hl
    · rw [hw l Z4] at hl; cases hl
  · rcases r4.new j hj with h | h
    · exact .inl (hdom j h)
    · exact .inr (hsn ▸ h)
  · rw [r4.aframe j (hsn ▸ hj) (fun h => hdj (hdom j h))]
    have hji : j ≠ i := fun e => hdj (e ▸ di)
    exact (dj j hj hji).resolve_right hdj
  · obtain ⟨x1, x2⟩ := r4.cframe b hb fun j hj => hob j (frzO_some hj)
    refine ⟨x1.trans ?_, x2⟩;unfold frzO;rw [if_neg];intro hq;have := hob i hq;omega
  · rcases r4.virn j hj with h | h
    · exact .inl h
    · exact .inr (hsn ▸ h)
theorem ptr_obj {j o : Nat} {x : Value} (h : VR β (.pointer (some ⟨j, o, none⟩)) x) : ∃ b, β.obj j = some b := by
 cases h with
 | ptrObj h => exact ⟨_, h⟩
theorem sl_dom {j o hi n sz : Nat} {x : Value} (h : VR β (.slice (some ⟨j, o, some hi⟩) n sz) x) : β.dom j := by
 cases h with
 | sliceArr h => exact .inr ⟨_, _, h⟩
 | sliceVir h => exact .vir h
theorem ice_cell {n : Nat} {mm : T Value} {lv : List (Nat × Value)} {α : Type} (f : α → List Value) (l : List α) (i d j off sz : Nat) (a b : List Value) (hz : 0 < sz) (hf : ∀ x, (f x).length = sz) (hc : ∀ x, clo.cloL (f x) = true) (h1 : ∀ x, (f x).all one = true) (hs : s.WF) (hi : s.get i = some (rowL f l)) (hj : s.get j = some (.cells (a ++ slL i sz l.length :: b))) (hd : lk lv d = some (.pointer (some ⟨j, off, none⟩))) (hdn : d < n)
    (h : SK P G fid c (envOf n mm lv) ((s.set j (.cells (a ++ inlL f sz l :: b))).set i (.arr (flatL f l) 0 true)) Q) : SK P G fid c (envOf n mm lv) s Q := by
  have hji : j ≠ i := fun e => by subst e; rw [hi] at hj; cases hj
  have hlen := flatL_len (l := l) hf;have htk : (flatL f l).take (l.length * sz) = flatL f l := List.take_of_length_le Z4;have ices : ∀ a : List Value, AsIces i 0 (flatL f l) a a := by
    intro a;induction a with
    | nil => exact trivial
    | cons x a ih => exact ⟨.inl rfl, ih⟩
  have icesm : ∀ a : List Value, AsIces i 0 (flatL f l) (a ++ slL i sz l.length :: b) (a ++ inlL f sz l :: b) := by
    intro a;induction a with
    | nil => exact ⟨.inr ⟨l.length * sz, l.length, sz, rfl, Nat.zero_le _, Z4, hz, Nat.le_refl _, by rw [htk]; rfl⟩, ices b⟩
    | cons x a ih => exact ⟨.inl rfl, ih⟩
  have hin := hs.lt hi;have hjn := hs.lt hj;refine sk_frz (i := i) (mv := 0) (cs := flatL f l) (envOf n mm lv) ((s.set j (.cells (a ++ inlL f sz l :: b))).set i (.arr (flatL f l) 0 true)) hi (Z2o hc) (flatL_one h1) rfl (fun _ _ => .inl rfl) rfl ((hs.set hj).set (by rw [St.get_set, if_neg (Ne.symm hji)]; exact hi)) (by rw [St.get_set, if_pos rfl]) (fun q hq hqi => ?_) (fun β own w t h2 he => ?_) h
  · rw [St.get_set, if_neg hqi, St.get_set]
    by_cases e : q = j
    · subst e
      rw [if_pos rfl, hj];exact ⟨rfl, icesm a⟩
    · rw [if_neg e]
      cases s.get q with
      | none => rfl
      | some o => cases o with
        | cells x => exact ⟨rfl, ices x⟩
        | _ => rfl
  · have hp := he.at_ d (by rw [envOf_n]; exact hdn)
    rw [envOf_get hdn, hd] at hp;obtain ⟨bb, hb⟩ := ptr_obj hp;have hdj : β.dom j := .inl ⟨bb, hb⟩;refine ⟨?_, fun q hq hqi => ?_⟩
    · obtain ⟨_, _, x3⟩ := h2.obj j bb hb
      obtain ⟨cc, tt, _, y2⟩ := x3 _ hj;have : ∀ (a x : List Value), VRs β (a ++ slL i sz l.length :: b) x → β.dom i := by
        intro a;induction a with
        | nil =>
          intro x hx;obtain ⟨_, _, _, hv, _⟩ := hx.cons_inv;exact sl_dom hv
        | cons y a ih =>
          intro x hx;obtain ⟨_, _, _, _, hv⟩ := hx.cons_inv;exact ih _ hv
      exact this a _ y2.1
    · rw [St.get_set, if_neg hqi, St.get_set]
      by_cases e : q = j
      · subst e; exact .inr hdj
      · rw [if_neg e]; exact .inl rfl
end
end Go.Ai
/-
  The rules again, with what the kernel sees left out.
-/
namespace Go.Ai
section
variable {P : Program} {C : Cfg} {G : Nat} {rc : Rec} {e : Env} {s : St} {ops : Array Oper} {i : Nat} {o : Oper} {l : List Oper} {L : Log} {R : Env → St → Prop}
theorem aK (k : Nat) (hR : AllL C rc ops (l.drop k) (getEnv (execOps C rc ops (l.take k) e s)) (getSt (execOps C rc ops (l.take k) e s)) R) (h : isRet (execOps C rc ops (l.take k) e s) = true := by kernel_rfl) : AllL C rc ops l e s R := al_chunk k h hR
theorem aN (hR : R (getEnv (execOps C rc ops l e s)) (getSt (execOps C rc ops l e s))) (h : isRet (execOps C rc ops l e s) = true := by kernel_rfl) : AllL C rc ops l e s R := al_known h hR
theorem dK (k : Nat) (hR : AllD C rc ops (i + (l.take k).length) (l.drop k) (drL (drawRun C rc ops i (l.take k) L e s)) (drE (drawRun C rc ops i (l.take k) L e s)) (drS (drawRun C rc ops i (l.take k) L e s)) R) (h : (drawRun C rc ops i (l.take k) L e s).isSome = true := by kernel_rfl) : AllD C rc ops i l L e s R := ald_chunk k h hR
theorem aM (X : Option Value) (v : Value) (hs : X = some v) (h : AllL C rc ops l (e.dst o.dst v) s R) (hw : Region.wanted o (Z2p ops e) = true := by kernel_rfl) (ho : oneOp C (fun _ _ => .fail) e s o.op = .ofOption (Z2m C e.eval s o.op) := by kernel_rfl)
 (hv : Z2m C e.eval s o.op = X.map (fun v => (v, s)) := by kernel_rfl) : AllL C rc ops (o :: l) e s R := al_map X v hw ho hv hs h
theorem dM (X : Option Value) (v : Value) (hs : X = some v) (h : AllD C rc ops (i + 1) l ((drawLog C ops i o L e s v s).getD ⟨[], []⟩) (e.dst o.dst v) s R) (hw : Region.wanted o (Z2p ops e) = true := by kernel_rfl) (ho : oneOp C (fun _ _ => .fail) e s o.op = .ofOption (Z2m C e.eval s o.op) := by kernel_rfl)
 (hv : Z2m C e.eval s o.op = X.map (fun v => (v, s)) := by kernel_rfl) (hl : (drawLog C ops i o L e s v s).isSome = true := by kernel_rfl) : AllD C rc ops i (o :: l) L e s R := ald_mapL X v hw ho hv hs hl h
theorem aT (ht : asB (getV (Z2m C e.eval s o.op)) = true → AllL C rc ops l (e.dst o.dst (.bool true)) s R) (hf : asB (getV (Z2m C e.eval s o.op)) = false → AllL C rc ops l (e.dst o.dst (.bool false)) s R)
 (hw : Region.wanted o (Z2p ops e) = true := by kernel_rfl) (ho : oneOp C (fun _ _ => .fail) e s o.op = .ofOption (Z2m C e.eval s o.op) := by kernel_rfl)
 (hv : Z2m C e.eval s o.op = some (.bool (asB (getV (Z2m C e.eval s o.op))), s) := by kernel_rfl) : AllL C rc ops (o :: l) e s R := al_test hw ho hv ht hf
theorem dT (ht : asB (getV (Z2m C e.eval s o.op)) = true → AllD C rc ops (i + 1) l (logOf (drawLog C ops i o L e s (.bool true) s)) (e.dst o.dst (.bool true)) s R)
 (hf : asB (getV (Z2m C e.eval s o.op)) = false → AllD C rc ops (i + 1) l (logOf (drawLog C ops i o L e s (.bool false) s)) (e.dst o.dst (.bool false)) s R)
 (hw : Region.wanted o (Z2p ops e) = true := by kernel_rfl) (hv : Z2m C e.eval s o.op = some (.bool (asB (getV (Z2m C e.eval s o.op))), s) := by kernel_rfl) (ho : oneOp C (fun _ _ => .fail) e s o.op = .ofOption (Z2m C e.eval s o.op) := by kernel_rfl)
 (hl : ∀ b, (drawLog C ops i o L e s (.bool b) s).isSome = true := by (intro b; kernel_rfl)) : AllD C rc ops i (o :: l) L e s R := ald_test hw hv ho hl ht hf
theorem aE {v : Value} (v2 : Value) (he : v = v2) (h : AllL C rc ops l (e.dst o.dst v2) s R) (hw : Region.wanted o (Z2p ops e) = true := by kernel_rfl) (ho : oneOp C (fun _ _ => .fail) e s o.op = .ofOption (Z2m C e.eval s o.op) := by kernel_rfl)
 (hv : Z2m C e.eval s o.op = some (v, s) := by kernel_rfl) : AllL C rc ops (o :: l) e s R := al_eqv v2 hw ho hv he h
theorem dE {v : Value} (v2 : Value) (he : v = v2) (h : AllD C rc ops (i + 1) l (logOf (drawLog C ops i o L e s v2 s)) (e.dst o.dst v2) s R) (hw : Region.wanted o (Z2p ops e) = true := by kernel_rfl) (ho : oneOp C (fun _ _ => .fail) e s o.op = .ofOption (Z2m C e.eval s o.op) := by kernel_rfl)
 (hv : Z2m C e.eval s o.op = some (v, s) := by kernel_rfl) (hl : (drawLog C ops i o L e s v2 s).isSome = true := by kernel_rfl) : AllD C rc ops i (o :: l) L e s R := ald_eqv v2 hw ho hv he hl h
theorem aC (f : FuncId) (args : List Value) (v : Value) (s' : St) {c : Call} (hop : o.op = .call c) (hc : rc (.call f args) s = .ret (.val v, s')) (h : AllL C rc ops l (e.dst o.dst v) s' R) (hb : ∀ b, c.callee ≠ .builtin b := by (intro b h; cases h)) (hw : Region.wanted o (Z2p ops e) = true := by kernel_rfl)
 (ht : target C s e.eval c = some (.call f args) := by kernel_rfl) (hx0 : extV C (.call f args) = none := by kernel_rfl) : AllL C rc ops (o :: l) e s R := al_callH f args v s' hop hb hw ht hc h hx0
theorem dC (f : FuncId) (args : List Value) (v : Value) (s' : St) {c : Call} (hop : o.op = .call c) (hc : rc (.call f args) s = .ret (.val v, s')) (h : AllD C rc ops (i + 1) l (logOf (drawLog C ops i o L e s v s')) (e.dst o.dst v) s' R) (hb : ∀ b, c.callee ≠ .builtin b := by (intro b h; cases h)) (hw : Region.wanted o (Z2p ops e) = true := by kernel_rfl)
 (ht : target C s e.eval c = some (.call f args) := by kernel_rfl) (hl : (drawLog C ops i o L e s v s').isSome = true := by kernel_rfl) (hx0 : extV C (.call f args) = none := by kernel_rfl) : AllD C rc ops i (o :: l) L e s R := ald_callH f args v s' hop hb hw ht hc hl h hx0
theorem aB (f : FuncId) (args : List Value) (b : Bool) (s' : St) {c : Call} (hop : o.op = .call c) (hc : rc (.call f args) s = .ret (.val (.bool b), s')) (h1 : b = true → AllL C rc ops l (e.dst o.dst (.bool true)) s' R) (h2 : b = false → AllL C rc ops l (e.dst o.dst (.bool false)) s' R) (hb : ∀ b, c.callee ≠ .builtin b := by (intro b h; cases h))
 (hw : Region.wanted o (Z2p ops e) = true := by kernel_rfl) (ht : target C s e.eval c = some (.call f args) := by kernel_rfl) (hx0 : extV C (.call f args) = none := by kernel_rfl) : AllL C rc ops (o :: l) e s R := al_callB f args b s' hop hb hw ht hc h1 h2 hx0
theorem dB (f : FuncId) (args : List Value) (b : Bool) (s' : St) {c : Call} (hop : o.op = .call c) (hc : rc (.call f args) s = .ret (.val (.bool b), s')) (h1 : b = true → AllD C rc ops (i + 1) l (logOf (drawLog C ops i o L e s (.bool true) s')) (e.dst o.dst (.bool true)) s' R)
 (h2 : b = false → AllD C rc ops (i + 1) l (logOf (drawLog C ops i o L e s (.bool false) s')) (e.dst o.dst (.bool false)) s' R) (hb : ∀ b, c.callee ≠ .builtin b := by (intro b h; cases h))
 (hw : Region.wanted o (Z2p ops e) = true := by kernel_rfl) (ht : target C s e.eval c = some (.call f args) := by kernel_rfl) (hl : ∀ b, (drawLog C ops i o L e s (.bool b) s').isSome = true := by (intro b; kernel_rfl)) (hx0 : extV C (.call f args) = none := by kernel_rfl) : AllD C rc ops i (o :: l) L e s R := ald_callB f args b s' hop hb hw ht hc hl h1 h2 hx0
variable {fid : FuncId} {q : Operand} {x y : Code} {Q : Out → Env → St → Prop}
theorem kT (h : SK P G fid x e s Q) (hv : e.eval q = .bool true := by kernel_rfl) : SK P G fid (.cond q x y) e s Q := sk_true hv h
theorem kF (h : SK P G fid y e s Q) (hv : e.eval q = .bool false := by kernel_rfl) : SK P G fid (.cond q x y) e s Q := sk_false hv h
theorem kK (H : CfgOk P C (okK G)) (S : Sound P G rc) {id : Nat} (hQ : Q .normal (getEnv (execOps C rc ops ops.toList e s)) (getSt (execOps C rc ops ops.toList e s))) (h : isRet (execOps C rc ops ops.toList e s) = true := by kernel_rfl) : SK P G fid (.region id ops false) e s Q := sk_regionK H S h hQ
end
end Go.Ai
/-
  A part of no length; bytes that are written; numbers of 62 bits.
-/
namespace Go.Ai
section
variable {C : Cfg} {s : St}
theorem store_rowM1 {α : Type} {f : α → List Value} {sz : Nat} {t : TypeId} (ht : oneSz C t = true) (hf : ∀ x, (f x).length = sz) (ho : ∀ x, (f x).all one = true) {id i mv n : Nat} {x : α} {l : List α} {v : Value} (hx : f x = [v]) (hc : v.cells = #[v]) (hg : s.get id = some (rowM f mv l)) (hn : n = l.length) (hm : mv ≤ n * sz) (hi : i < n) :
  storeV C s t (.pointer (some ⟨id, i * sz, some (n * sz)⟩)) v = some (s.set id (rowM f (n * sz) (l.set i x))) := by
 subst hn;have hm2 := Nat.mul_le_mul_right sz (show i + 1 ≤ l.length from hi);rw [Nat.succ_mul] at hm2;unfold oneSz at ht;split at ht
 ·rename_i ty hty;have e1 := Nat.eq_of_beq_eq_true ht;unfold storeV;rw [hty];have hs : v.cells.size = ty.size := by rw [e1, hc]; rfl
  refine (if_pos hs).trans ?_;rw [hc];show s.putCells _ [v] = _;rw [← hx];unfold St.putCells;simp only [hg, rowM];rw [if_pos ⟨hm, (flatL_len hf).symm, by rw [hf x]; exact hm2, ho x⟩];rw [flatL_set hf hi]
 ·cases ht
end
end Go.Ai
/-
  Inputs as values of Lean: what reads as a type comes to a value of a Lean type.
-/
namespace Go.Ai
open Go.ChangeShapes Go.WideShapes Go.RowKit
section
variable {P : Program} {n : Nat} {t : TypeId} {α β : Type} {f : α → List Value} {ok : α → Prop}
def Rep (P : Program) (n : Nat) (t : TypeId) {α : Type} (f : α → List Value) (ok : α → Prop) : Prop := ∀ xs, TFits P n t xs → ∃ x, xs = f x ∧ ok x
theorem Rep.map (h : Rep P n t f ok) {g : β → List Value} {ok' : β → Prop} (e : α → β) (h1 : ∀ x, f x = g (e x)) (h2 : ∀ x, ok x → ok' (e x)) : Rep P n t g ok' := fun xs hx => by
 obtain ⟨x, rfl, q⟩ := h xs hx;exact ⟨e x, h1 x, h2 x q⟩
theorem rep_str (hu : P.underlying t = some .string) : Rep P (n + 1) t (fun x : ByteArray => [.string x]) (fun x => x.size ≤ maxLen) := fun xs h => by
 unfold TFits at h;rw [hu] at h;obtain ⟨x, rfl, q⟩ := h;exact ⟨x, rfl, q⟩
variable {H : Type} {enc : TypeId × Value → H} {W : World} {v : Value} {d : DataW H} {ps : List MemPlace}
theorem arg_cells (hl : layOk P n t = true) (hr : Rep P n t f ok) (h : DataW.Trod enc P W 0 (fun _ => true) true t v d ps) : ∃ x, ok x ∧ VRs (layB P W) (f x) v.cells.toList := by
 obtain ⟨fuel, h⟩ := h;obtain ⟨xs, h1, h2⟩ := lay_arg hl h;obtain ⟨x, rfl, q⟩ := hr xs h2;exact ⟨x, q, h1⟩
theorem arg_string {base : Nat} {g : α → Value} (hu : P.underlying t = some .string) (hw : Value.okWide P W .any base t v) (hl : layOk P n t = true) (hr : Rep P n t (fun x => [g x]) ok) (h : DataW.Trod enc P W 0 (fun _ => true) true t v d ps) : ∃ x, ok x ∧ VR (layB P W) (g x) v := by
 obtain ⟨a, rfl⟩ := okWide_string hu hw;obtain ⟨x, q, h1⟩ := arg_cells hl hr h;obtain ⟨_, _, e1, e2, _⟩ := h1.cons_inv;cases e1;exact ⟨x, q, e2⟩
end
end Go.Ai
/-
  Pointers to frozen things; parts of texts.
-/
namespace Go.Ai
section
variable {C : Cfg} {s : St} {k : Nat}
theorem fs_ptr1 {α : Type} {f : α → List Value} {x : α} {sz id : Nat} {cs : List Value} {ty : Option TypeId} (hk : k ≤ id) (hg : s.get id = some (.cells cs ty)) (hf : FSL k s cs (f x)) (hc : clo.cloL (f x) = true) (h1 : (f x).all one = true) : FS k s (.pointer (some ⟨id, 0, none⟩)) (elt (flatL f [x]) (0 * sz)) := by
 have e : (flatL f [x]).drop (0 * sz) = f x := by simp [flatL]
 unfold elt;rw [e];exact .ptr hk hg (by simpa using hf) hc h1
theorem elt_inj {α : Type} {f : α → List Value} {x y : α} {sz : Nat} (h : elt (flatL f [x]) (0 * sz) = elt (flatL f [y]) (0 * sz)) : f x = f y := by
 have e : ∀ z : α, (flatL f [z]).drop (0 * sz) = f z := fun z => by simp [flatL]
 unfold elt at h;rw [e, e] at h;have h := congrArg dec (Option.some.inj (Value.chan.inj h));rw [dec_code, dec_code] at h;exact Inl.ptr.inj (Option.some.inj h)
theorem ptok_neq (H : TokC C) {b : Bool} {t : TypeId} {cs : List Value} {o : Nat} (ht : isPt C t = true) : binV C s b .neq t (elt cs o) (.pointer none) = some (.bool true) := by
 unfold binV elt isPtr;simp only [H.dec, dec_code, ht];rfl
theorem ptok_eql (H : TokC C) {b : Bool} {t : TypeId} {cs : List Value} {o : Nat} (ht : isPt C t = true) : binV C s b .eql t (elt cs o) (.pointer none) = some (.bool false) := by
 unfold binV elt isPtr;simp only [H.dec, dec_code, ht];rfl
def nilE (C : Cfg) (v : Value) (s : St) : Option (Value × St) :=
  match v with
  | .chan (some c) => (match C.dec c with
    | some (.ptr _) => some (.chan (some c), s)
    | _ => none)
  | _ => none
theorem nilE_elt (H : TokC C) {cs : List Value} {o : Nat} : nilE C (elt cs o) s = some (elt cs o, s) := by
 unfold nilE elt;simp only [H.dec, dec_code]
def txTy (C : Cfg) (t : TypeId) : Bool :=
 match C.ty t with
 | some { desc := .string, .. } => true
 | _ => false
theorem bstr_extract (l : List UInt8) (a b : Nat) : (bstr l).extract a b = bstr ((l.take b).drop a) := by
 apply ByteArray.ext;rw [ByteArray.data_extract];apply Array.toList_inj.1;show (l.toArray.extract a b).toList = ((l.take b).drop a).toArray.toList;rw [Array.toList_extract];simp [List.extract_eq_take_drop, List.drop_take]
theorem slice_str {t : TypeId} (ht : txTy C t = true) {l : List UInt8} {lo hi : Option Value} {a b : Nat} (hb : boundsV l.length lo hi none = some (a, b)) : sliceV C t (.string (bstr l)) lo hi none = some (.string (bstr ((l.take b).drop a))) := by
 unfold txTy at ht;split at ht
 ·rename_i hty;unfold sliceV;rw [hty];show (match (none : Option Value), boundsV (bstr l).size lo hi none with
   | none, some (x, y) => some (Value.string ((bstr l).extract x y))
   | _, _ => none) = _
  rw [show (bstr l).size = l.length from rfl, hb, ← bstr_extract]
 ·cases ht
theorem slice_strLo {t : TypeId} (ht : txTy C t = true) {l : List UInt8} {m : Nat} {k : IntKind} (h : m ≤ l.length) : sliceV C t (.string (bstr l)) (some (.int k ((m : Nat) : Int))) none none = some (.string (bstr (l.drop m))) := by
 rw [slice_str ht (bnd_lo h), List.take_of_length_le (Nat.le_refl _)]
theorem slice_strHi {t : TypeId} (ht : txTy C t = true) {l : List UInt8} {m : Nat} {k : IntKind} (h : m ≤ l.length) : sliceV C t (.string (bstr l)) none (some (.int k ((m : Nat) : Int))) none = some (.string (bstr (l.take m))) := by
 rw [slice_str ht (bnd_hi h), List.drop_zero]
theorem slice_strOne {t : TypeId} (ht : txTy C t = true) {l : List UInt8} {m : Nat} {x : UInt8} {k j : IntKind} (h : l[m]? = some x) : sliceV C t (.string (bstr l)) (some (.int k ((m : Nat) : Int))) (some (.int j ((m + 1 : Nat) : Int))) none = some (.string (bstr [x])) := by
 have hm := (List.getElem?_eq_some_iff.1 h).1;rw [slice_str ht (bnd_both Z4 Z4), List.take_add_one, h, List.drop_append_of_le_length Z1c];simp
theorem bstr_iff {a b : List UInt8} : bstr a = bstr b ↔ a = b :=
 ⟨fun h => by have := congrArg (fun z => z.data.toList) h; simpa [bstr] using this, fun h => by rw [h]⟩
theorem again_eq {ev : Operand → Value} {o : Op} {X : Option Value} {v : Value} (h : Z2m C ev s o = X.map fun v => (v, s)) (hX : X = some v) : Z2m C ev s o = some (v, s) := by rw [h, hX]; rfl
theorem again_map {ev : Operand → Value} {o : Op} {X : Option Value} {v : Value} (h : Z2m C ev s o = X.map fun v => (v, s)) (hX : X = some v) : ∃ s'', Z2m C ev s o = some (v, s'') := ⟨s, again_eq h hX⟩
theorem ald_readG {rc : Rec} {e : Env} {ops : Array Oper} {i : Nat} {o : Oper} {r : List Oper} {L : Log} {R : Env → St → Prop} {d : Nat × St × St} {v : Value} {s1 : St} (hw : Region.wanted o (Z2p ops e) = true)
  (ho : oneOp C (fun _ _ => .fail) e s o.op = .ofOption (Z2m C e.eval s o.op)) (hc : Nat.beq (Z2l C o.op) 2 = true) (hv : Z2m C e.eval s o.op = some (v, s1))
  (hE : ∀ j, j < L.effects.length → ((Region.before ops).getD i 0).testBit (L.effects.getD j d).1 = true ∨ ∃ s'', Z2m C e.eval (L.effects.getD j d).2.1 o.op = some (v, s''))
  (h : AllD C rc ops (i + 1) r { L with reads := (i, o.op, e, v) :: L.reads } (e.dst o.dst v) s1 R) : AllD C rc ops i (o :: r) L e s R := by
 have e1 : getV (Z2m C e.eval s o.op) = v := by rw [hv]; rfl
 have e2 : getS (Z2m C e.eval s o.op) = s1 := by rw [hv]; rfl
 refine ald_readK (d := d) hw (by rw [hv]; rfl) ho hc (fun j hj => by rw [e1]; exact hE j hj) ?_;rw [e1, e2];exact h
end
end Go.Ai