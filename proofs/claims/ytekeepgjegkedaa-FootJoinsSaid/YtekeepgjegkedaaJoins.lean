/- For every list of feet and every key FootJoins answers true and leaves its arguments as they were. No condition. -/
import Derived.Test.YtekeepgjegkedaaLaw4
import Derived.Test.YtekeepgjegkedaaLift
set_option linter.unusedVariables false
set_option linter.unusedSimpArgs false
set_option linter.unnecessarySimpa false
namespace Go.Proofs.Ytekeepgjegkedaa
open Go.ChangeShapes Go.WideShapes Go.ChangeAt Go.RowKit Go.Ai
set_option maxRecDepth 100000 in
theorem joins_lifted (os : Os) (started : os.Started) (H : Type) (enc : TypeId × Value → H) :
    ReturnsInHanded {} Try.checked os 4 .any (Rows.footJoinsSpec.pre6 enc Try.prog Try.f4 Rows.footJoinsRow.domain false) (Rows.footJoinsSpec.post enc Try.prog Try.f4 false true false false) := by
  refine returnsInHanded_of_change (C := Try.checked) Try.own started (by kernel_rfl) Try.func4
    (ChangeSpec.witness6 (enc := enc) (C := Try.checked) false ⟨#[], #[.slice none 0 0, .agg #[.int .i64 0, .int .i64 0]], []⟩ 8 (by kernel_rfl) (by kernel_rfl) (by kernel_rfl) (by kernel_rfl)) ?_
  intro W base args ds gs before hval0 hW hcnd _
  have hval : ∀ (j : Nat) t v, Try.f4.params[j]? = some t → args[j]? = some v → Value.okWide Try.prog W .any base t v := hval0
  have hW' := hW
  obtain ⟨p, q, hA0, hV, rfl, hfz, hnd⟩ := hW
  have hA : DataW.TrodAll enc Try.prog W 0 (fun _ => true) true Try.f4.params.toList args.toList ds p := hA0
  rw [Try.params4] at hA hval
  obtain ⟨v0, v1, d0, d1, p0, p1, rfl, rfl, rfl, h0, h1⟩ := trodAll_two hA
  obtain ⟨rfl, rfl⟩ := trodVars_none hV
  obtain ⟨l, ka, ra⟩ := arg_slice (g := fun l : List Foot => inlL fcells 3 l) Try.underlying35 (hval 0 35 v0 rfl rfl) (by kernel_rfl) (rep_slice Try.underlying35 (by kernel_rfl) rep_foot) h0
  obtain ⟨⟨kt, kk⟩, kb, rb⟩ := arg_struct Try.underlying30 (hval 1 30 v1 rfl rfl) (by kernel_rfl) rep_key h1
  have hcalls := calls_sc (args' := #[v0, v1]) (sr_lay (St.empty 0).get W) (wf_empty 0) (fun i h => absurd h (dom_lay W i)) (.cons ra (.cons rb .nil)) ((law4_sc l kt kk (fun x hx => (ka.2 x hx).2.1) ka.1).up fun _ _ h => h.1)
  refine hcalls.mono fun e W' ⟨he, hw⟩ => ?_
  subst he
  exact ⟨_, rfl, post_true (tb := 4) hW' rfl hw Try.laidOut (by kernel_rfl) (by kernel_rfl) (by kernel_rfl) rfl rfl rfl⟩
theorem footJoins_holds : Rows.FootJoinsSaid :=
  OpenClaim.holds_of_wide 4 Try.f4 rfl rfl rfl rfl rfl rfl rfl ⟨rfl, rfl, rfl, rfl, rfl⟩ rfl rfl rfl rfl rfl (by kernel_rfl) Try.func4 (by kernel_rfl)
    (of_decide_eq_true (by kernel_rfl)) (by unfold Func.isWrapper; first | (rw [if_pos (by decide +kernel)]; kernel_rfl) | (rw [if_neg (by decide +kernel)]; exact ⟨rfl, rfl⟩))
    (fun os started H enc _ => joins_lifted os started H enc)
#print axioms footJoins_holds
end Go.Proofs.Ytekeepgjegkedaa
