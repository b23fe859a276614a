/-
  More levels change no answer.
-/
import Derived.Test.YtfnbgfmmlgbfjaaGreatDoorAiGrow
namespace Go.Ai

inductive MLe {α : Type} : M α → M α → Prop where
  | fail (m : M α) : MLe .fail m
  | ret (a : α) : MLe (.ret a) (.ret a)
  | ask (n : Nat) {k k' : Nat → M α} (h : ∀ i, MLe (k i) (k' i)) : MLe (.ask n k) (.ask n k')

theorem MLe.refl {α : Type} : ∀ (m : M α), MLe m m
  | .fail => .fail _
  | .ret a => .ret a
  | .ask n k => .ask n fun i => MLe.refl (k i)
theorem MLe.bind {α γ : Type} {m m' : M α} {f f' : α → M γ} (h : MLe m m') (hf : ∀ a, MLe (f a) (f' a)) : MLe (m.bind f) (m'.bind f') := by
  induction h with
  | fail m => exact .fail _
  | ret a => exact hf a
  | ask n h ih => exact .ask n ih
theorem MLe.all {α : Type} {Q : α → Prop} {m m' : M α} (h : MLe m m') (hq : m.All Q) : m'.All Q := by
  induction h with
  | fail m => exact hq.elim
  | ret a => exact hq
  | ask n h ih => exact ⟨hq.1, fun i hi => ih i (hq.2 i hi)⟩
theorem MLe.trans {α : Type} {a b c : M α} (h : MLe a b) (h' : MLe b c) : MLe a c := by
  induction h generalizing c with
  | fail m => exact .fail _
  | ret a => exact h'
  | ask n h ih =>
    cases h' with
    | ask n h' => exact .ask n fun i => ih i (h' i)

def RecLe (rc rc' : Rec) : Prop := ∀ t s, MLe (rc t s) (rc' t s)

section
variable {C : Cfg} {rc rc' : Rec} (hr : RecLe rc rc')

include hr in
theorem oneOp_mono (e : Env) (s : St) (o : Op) : MLe (oneOp C rc e s o) (oneOp C rc' e s o) := by
  unfold oneOp
  split
  · exact .refl _
  · split
    · exact (hr _ _).bind fun _ => .refl _
    · exact .fail _
  · exact .refl _
  · exact .refl _

include hr in
theorem execOps_mono {ops : Array Oper} : ∀ (l : List Oper) (e : Env) (s : St), MLe (execOps C rc ops l e s) (execOps C rc' ops l e s)
  | [], _, _ => .refl _
  | o :: r, e, s => by
    unfold execOps
    split
    · exact (oneOp_mono hr e s o.op).bind fun _ => execOps_mono r _ _
    · exact execOps_mono r _ _

include hr in
theorem execDraw_mono {ops : Array Oper} {ms : Array Nat} : ∀ (l : List Oper) (i : Nat) (L : Log) (e : Env) (s : St), MLe (execDraw C rc ops ms i l L e s) (execDraw C rc' ops ms i l L e s)
  | [], _, _, _, _ => .refl _
  | o :: r, i, L, e, s => by
    unfold execDraw
    split
    · have h := oneOp_mono (C := C) hr e s o.op
      generalize hm : oneOp C rc e s o.op = m at h
      generalize hm' : oneOp C rc' e s o.op = m' at h
      cases h with
      | fail => exact .fail _
      | ask n h => exact .fail _
      | ret a =>
        obtain ⟨v, s'⟩ := a
        dsimp only
        split
        · exact execDraw_mono r _ _ _ _
        · exact execDraw_mono r _ _ _ _
        · split
          · exact execDraw_mono r _ _ _ _
          · exact .fail _
        · split
          · exact execDraw_mono r _ _ _ _
          · exact .fail _
    · exact execDraw_mono r _ _ _ _

include hr in
theorem execC_mono (fid : FuncId) : ∀ (c : Code) (e : Env) (s : St), MLe (execC C rc fid c e s) (execC C rc' fid c e s) := by
  intro c
  induction c with
  | region id ops d =>
    intro e s
    unfold execC
    refine MLe.bind ?_ fun _ => .refl _
    cases d with
    | true => exact execDraw_mono hr _ _ _ _ _
    | false => exact execOps_mono hr _ _ _
  | seq a b iha ihb =>
    intro e s
    unfold execC
    refine (iha e s).bind fun x => ?_
    obtain ⟨o, e1, s1⟩ := x
    cases o with
    | normal => exact ihb _ _
    | exit id => exact .refl _
    | ret => exact .refl _
  | cond q a b iha ihb =>
    intro e s
    unfold execC
    split
    · exact iha _ _
    · exact ihb _ _
    · exact .fail _
  | block id c ih =>
    intro e s
    unfold execC
    exact (ih e s).bind fun _ => .refl _
  | loop c ih =>
    intro e s
    unfold execC
    refine (ih e s).bind fun x => ?_
    obtain ⟨o, e1, s1⟩ := x
    cases o with
    | normal => exact (hr _ _).bind fun _ => .refl _
    | exit id => exact .refl _
    | ret => exact .refl _
  | rangeFunc f ps a b iha ihb =>
    intro e s
    unfold execC
    split
    · exact .fail _
    · exact (hr _ _).bind fun _ => .refl _
  | scope c ih => intro e s; exact ih e s
  | _ => intro e s; exact .refl _

include hr in
theorem istep_mono : RecLe (istep C rc) (istep C rc') := by
  intro t s
  unfold istep
  cases t with
  | code fid c e => exact (execC_mono hr fid c e s).bind fun _ => .refl _
  | call f args =>
    dsimp only
    split
    · split
      · exact (execC_mono hr _ _ _ _).bind fun _ => .refl _
      · exact .fail _
    · exact .fail _
  | round l args =>
    dsimp only
    split
    · split
      · refine (execC_mono hr _ _ _ _).bind fun x => ?_
        obtain ⟨o, e1, s1⟩ := x
        unfold roundBody
        cases o with
        | exit id => exact .fail _
        | ret => exact .fail _
        | normal =>
          dsimp only
          split
          · split
            · exact (execC_mono hr _ _ _ _).bind fun _ => .refl _
            · exact .fail _
          · exact .fail _
      · exact .fail _
    · exact .fail _

theorem run_mono1 : ∀ n, RecLe (run C n) (run C (n + 1))
  | 0 => fun _ _ => .fail _
  | n + 1 => istep_mono (run_mono1 n)
theorem run_mono {n m : Nat} (h : n ≤ m) : RecLe (run C n) (run C m) := by
  induction m with
  | zero => have : n = 0 := by omega
            subst this; exact fun _ _ => .refl _
  | succ m ih =>
    by_cases he : n = m + 1
    · subst he; exact fun _ _ => .refl _
    · exact fun t s => (ih (by omega) t s).trans (run_mono1 m t s)

end
end Go.Ai
