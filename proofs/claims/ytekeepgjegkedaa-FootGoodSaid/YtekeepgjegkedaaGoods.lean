/- For every two feet FootGood answers true and leaves its arguments as they were. No condition. -/
import Derived.Test.YtekeepgjegkedaaLaw3
import Derived.Test.YtekeepgjegkedaaLift
set_option linter.unusedVariables false
set_option linter.unusedSimpArgs false
set_option linter.unnecessarySimpa false
namespace Go.Proofs.Ytekeepgjegkedaa
open Go.ChangeShapes Go.WideShapes Go.ChangeAt Go.RowKit Go.Ai
set_option maxRecDepth 100000 in
theorem good_lifted (os : Os) (started : os.Started) (H : Type) (enc : TypeId × Value → H) :
    ReturnsInHanded {} Try.checked os 3 .any (Rows.footGoodSpec.pre6 enc Try.prog Try.f3 Rows.footGoodRow.domain false) (Rows.footGoodSpec.post enc Try.prog Try.f3 false true false false) := by
  refine returnsInHanded_of_change (C := Try.checked) Try.own started (by kernel_rfl) Try.func3
    (ChangeSpec.witness6 (enc := enc) (C := Try.checked) false ⟨#[], #[.agg #[.slice none 0 0, .slice none 0 0, .slice none 0 0], .agg #[.slice none 0 0, .slice none 0 0, .slice none 0 0]], []⟩ 8 (by kernel_rfl) (by kernel_rfl) (by kernel_rfl) (by kernel_rfl)) ?_
  intro W base args ds gs before hval0 hW hcnd _
  have hval : ∀ (j : Nat) t v, Try.f3.params[j]? = some t → args[j]? = some v → Value.okWide Try.prog W .any base t v := hval0
  have hW' := hW
  obtain ⟨p, q, hA0, hV, rfl, hfz, hnd⟩ := hW
  have hA : DataW.TrodAll enc Try.prog W 0 (fun _ => true) true Try.f3.params.toList args.toList ds p := hA0
  rw [Try.params3] at hA hval
  obtain ⟨v0, v1, d0, d1, p0, p1, rfl, rfl, rfl, h0, h1⟩ := trodAll_two hA
  obtain ⟨rfl, rfl⟩ := trodVars_none hV
  obtain ⟨⟨ar, az, aw⟩, ka, ra⟩ := arg_struct Try.underlying25 (hval 0 25 v0 rfl rfl) (by kernel_rfl) rep_foot h0
  obtain ⟨⟨br, bz, bw⟩, kb, rb⟩ := arg_struct Try.underlying25 (hval 1 25 v1 rfl rfl) (by kernel_rfl) rep_foot h1
  have hcalls := calls_sc (args' := #[v0, v1]) (sr_lay (St.empty 0).get W) (wf_empty 0) (fun i h => absurd h (dom_lay W i)) (.cons ra (.cons rb .nil)) ((law3_sc ar az aw br bz bw ka.2.1 kb.2.1).up fun _ _ h => h.1)
  refine hcalls.mono fun e W' ⟨he, hw⟩ => ?_
  subst he
  exact ⟨_, rfl, post_true (tb := 4) hW' rfl hw Try.laidOut (by kernel_rfl) (by kernel_rfl) (by kernel_rfl) rfl rfl rfl⟩
theorem footGood_holds : Rows.FootGoodSaid :=
  OpenClaim.holds_of_wide 3 Try.f3 rfl rfl rfl rfl rfl rfl rfl ⟨rfl, rfl, rfl, rfl, rfl⟩ rfl rfl rfl rfl rfl (by kernel_rfl) Try.func3 (by kernel_rfl)
    (of_decide_eq_true (by kernel_rfl)) (by unfold Func.isWrapper; first | (rw [if_pos (by decide +kernel)]; kernel_rfl) | (rw [if_neg (by decide +kernel)]; exact ⟨rfl, rfl⟩))
    (fun os started H enc _ => good_lifted os started H enc)
#print axioms footGood_holds
end Go.Proofs.Ytekeepgjegkedaa
