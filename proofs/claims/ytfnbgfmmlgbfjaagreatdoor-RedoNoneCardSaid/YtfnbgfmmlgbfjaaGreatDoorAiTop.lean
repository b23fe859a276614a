/-
  From a run of the interpreter to a call's contract; the interpreter's tables, made of a program.
-/
import Derived.Test.YtfnbgfmmlgbfjaaGreatDoorAiDraw3
import Derived.Below
namespace Go.Ai

/-! ### tables -/
def okTy (ty : Ty) : Bool :=
  match ty.zero with
  | some z => litOk z
  | none => true
def tyRow (P : Program) (t : TypeId) : Option Ty :=
  match mkTy P t with
  | some ty => bif okTy ty then some ty else none
  | none => none
def okFn (G : Nat) (fn : Func) : Bool :=
  (match fn.body with | some c => okc G c | none => true) && !(fn.name == "runtime.NumGoroutine")
def fnRow (G : Nat) (fn : Func) : Option Func := bif okFn G fn then some fn else none

/-- 'ft', 'tt': tries over the program's functions and types -/
def cfgOf (G : Nat) (ft : T Func) (tt : T (Option Ty)) (peq : Nat → Option (List CK)) : Cfg where
  fn f := match ft.get f with
    | some fn => fnRow G fn
    | none => none
  ty t := match tt.get t with
    | some (some ty) => some ty
    | _ => none
  peq := peq

theorem tyRow_ok {P : Program} {t : TypeId} {ty : Ty} (h : tyRow P t = some ty) : mkTy P t = some ty ∧ okTy ty = true := by
  unfold tyRow at h
  split at h
  · rename_i ty' hm
    cases ho : okTy ty' with
    | true => rw [ho] at h; cases h; exact ⟨hm, ho⟩
    | false => rw [ho] at h; cases h
  · cases h

theorem cfg_ok {P : Program} {G : Nat} {peq : Nat → Option (List CK)} (n : Nat) (hm : P.follows .mixedOrders = true) (hp : ∀ t ks, peq t = some ks → EqAgree P t ks) :
    CfgOk P (cfgOf G (T.ofList P.funcs.toList) (T.ofList ((List.range n).map (tyRow P))) peq) (okK G) where
  ty t ty h := by
    have hr : tyRow P t = some ty := by
      simp only [cfgOf, T.get_ofList] at h
      split at h
      · rename_i ty' hg
        cases h
        rw [List.getElem?_map, Option.map_eq_some_iff] at hg
        obtain ⟨x, hx, e⟩ := hg
        have hxt : x = t := by
          by_cases hl : t < n
          · rw [List.getElem?_range hl] at hx; exact (Option.some.inj hx).symm
          · rw [List.getElem?_eq_none (by simpa using hl)] at hx; cases hx
        rw [← hxt]; exact e
      · cases h
    obtain ⟨h1, _⟩ := tyRow_ok hr
    unfold mkTy at h1
    split at h1
    · rename_i i d hi hd
      cases h1
      exact ⟨hd, i, hi, rfl, rfl, rfl, rfl, rfl⟩
    · cases h1
  zero t ty z h hz := by
    have hr : tyRow P t = some ty := by
      simp only [cfgOf, T.get_ofList] at h
      split at h
      · rename_i ty' hg
        cases h
        rw [List.getElem?_map, Option.map_eq_some_iff] at hg
        obtain ⟨x, hx, e⟩ := hg
        have hxt : x = t := by
          by_cases hl : t < n
          · rw [List.getElem?_range hl] at hx; exact (Option.some.inj hx).symm
          · rw [List.getElem?_eq_none (by simpa using hl)] at hx; cases hx
        rw [← hxt]; exact e
      · cases h
    obtain ⟨_, h2⟩ := tyRow_ok hr
    unfold okTy at h2
    rw [hz] at h2
    exact h2
  fn f fn h := by
    simp only [cfgOf, T.get_ofList] at h
    split at h
    · rename_i fn' hg
      unfold fnRow at h
      cases ho : okFn G fn' with
      | false => rw [ho] at h; cases h
      | true =>
        rw [ho] at h
        cases h
        unfold okFn at ho
        rw [Bool.and_eq_true] at ho
        refine ⟨by simpa using hg, by simpa using ho.2, fun c hc => ?_⟩
        have := ho.1
        rw [hc] at this
        exact this
    · cases h
  peq := hp
  mixed := hm

/-! ### contracts -/
/-- what a run came to: the value alone -/
def isVal (Q : Value → Bool) (x : Res × St) : Prop :=
  match x.1 with
  | .val v => Q v = true
  | _ => False

def isTrue : Value → Bool
  | .bool true => true
  | _ => false

/-- every road of a run ends in 'true', for the kernel -/
def allTrue : M (Res × St) → Bool
  | .ret (.val v, _) => isTrue v
  | _ => false
theorem allTrue_all {m : M (Res × St)} (h : allTrue m = true) : m.All fun x => x.1 = .val (.bool true) := by
  unfold allTrue at h
  split at h
  · rename_i v s
    unfold isTrue at h
    split at h
    · exact rfl
    · cases h
  · cases h

section
variable {P : Program} {C : Cfg}

def β00 : Bij := ⟨fun _ => none, fun _ _ => none⟩
def own00 : Nat → Option Nat := fun _ => none

theorem dom00 (i : Nat) : ¬ β00.dom i := by
  rintro (⟨b, h⟩ | ⟨hi, L, h⟩) <;> cases h
theorem sr00 {K : Code → Prop} (g : Nat → Option AObj) (w : World) : SR K β00 own00 g w where
  obj i b h := by cases h
  arr i hi L h := by cases h
  loc i hi hi' L L' h := by cases h
  blk i hi L h := by cases h
  one i h := by obtain ⟨b, h⟩ := h; cases h
  small b i h := by cases h
theorem glob00 : Glob β00 0 := fun g hg => absurd hg (Nat.not_lt_zero g)
theorem wf_empty (n : Nat) : (St.empty n).WF := fun _ _ => rfl

/-- a call whose run comes to 'true': it returns true, and what was there stays -/
theorem calls_true (H : CfgOk P C (okK 0)) {n f : Nat} {args : List Value} {args' : Array Value} {s : St} {β : Bij} {w : World} (hs : SR (okK 0) β own00 s.get w) (hw : s.WF) (hd : ∀ i, β.dom i → i < s.n) (ha : VRs β args args'.toList)
    (hr : (run C n (.call f args) s).All fun x => x.1 = .val (.bool true)) : Calls P f args' w fun e w' => e = .returned (.bool true) ∧ RowKit.Below w.heap.size w w' := by
  have hG : Glob β 0 := fun g hg => absurd hg (Nat.not_lt_zero g)
  obtain ⟨v, s', β', own', w', v', h1, h2, h3, h4, _, h6⟩ := (run_sim H (draw_sim H) n).1 β own00 s w f args args' hs hw hG ha (hr.mono fun _ _ i hi => .inl (hd i hi))
  have hv := hr.has h1
  simp only [Res.val.injEq] at hv
  subst hv
  obtain rfl := bool_inv h4
  intro cs
  obtain ⟨fr, q1, q2, q3⟩ := h6 cs
  exact ⟨.returned (.bool true), w', fr, ⟨rfl, h2.os, h2.tape, h2.output, h2.size, fun k hk => (h2.cframe k hk fun i hi => by cases hi).2⟩, q1, q2, q3⟩

/-- values that hold no addresses stand for themselves -/
theorem vrs_plain {β : Bij} : ∀ {l : List Value}, l.all litOk = true → VRs β l l
  | [], _ => .nil
  | x :: l, h => by
    simp only [List.all_cons, Bool.and_eq_true] at h
    exact .cons (litOk_self β h.1) (vrs_plain h.2)

end
end Go.Ai
