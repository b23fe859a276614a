/- For every two feet and every key FootMeets answers true and leaves its arguments as they were. No condition. -/
import Derived.Test.YtekeepgjegkedaaLaw
import Derived.Test.YtekeepgjegkedaaAiCon
set_option linter.unusedVariables false
set_option linter.unusedSimpArgs false
set_option linter.unnecessarySimpa false
namespace Go.Proofs.Ytekeepgjegkedaa
open Go.ChangeShapes Go.WideShapes Go.ChangeAt Go.RowKit Go.Ai
theorem Try.own : ownKnob Try.prog.godebug = none := by kernel_rfl
theorem Try.laidOut : laidOutB Try.prog = true := by kernel_rfl
theorem rep_key : Rep Try.prog 3 30 kcells (fun k : Key => in64 k.1 ∧ in64 k.2) :=
  (rep_struct Try.underlying30 (repF_cons (rep_int Try.underlying3) (repF_one (rep_int Try.underlying3)))).map (fun x => x) (fun _ => rfl) fun x h => ⟨⟨h.1.1, Int.lt_add_one_of_le h.1.2⟩, h.2.1, Int.lt_add_one_of_le h.2.2⟩
theorem rep_span : Rep Try.prog 3 32 scells (fun x : Span => in64 x.2.1 ∧ in64 x.2.2) :=
  (rep_struct Try.underlying32 (repF_cons (rep_int Try.underlying3) (repF_cons (rep_int Try.underlying3) (repF_one (rep_int Try.underlying3))))).map (fun x => x) (fun _ => rfl) fun x h => ⟨⟨h.2.1.1, Int.lt_add_one_of_le h.2.1.2⟩, h.2.2.1, Int.lt_add_one_of_le h.2.2.2⟩
theorem rep_foot : Rep Try.prog 5 25 fcells (fun x : Foot => ∀ s ∈ x.2.1, in64 s.2.1 ∧ in64 s.2.2) :=
  (rep_struct Try.underlying25 (repF_cons (rep_slice Try.underlying22 (by kernel_rfl) rep_key) (repF_cons (rep_slice Try.underlying23 (by kernel_rfl) rep_span) (repF_one (rep_slice Try.underlying22 (by kernel_rfl) rep_key))))).map (fun x => x) (fun _ => rfl) fun x h => h.2.1.2
set_option maxRecDepth 100000 in
theorem meets_lifted (os : Os) (started : os.Started) (H : Type) (enc : TypeId × Value → H) :
    ReturnsInHanded {} Try.checked os 5 .any (Rows.footMeetsSpec.pre6 enc Try.prog Try.f5 Rows.footMeetsRow.domain false) (Rows.footMeetsSpec.post enc Try.prog Try.f5 false true false false) := by
  refine returnsInHanded_of_change (C := Try.checked) Try.own started (by kernel_rfl) Try.func5
    (ChangeSpec.witness6 (enc := enc) (C := Try.checked) false ⟨#[], #[.agg #[.slice none 0 0, .slice none 0 0, .slice none 0 0], .agg #[.slice none 0 0, .slice none 0 0, .slice none 0 0], .agg #[.int .i64 0, .int .i64 0]], []⟩ 8 (by kernel_rfl) (by kernel_rfl) (by kernel_rfl) (by kernel_rfl)) ?_
  intro W base args ds gs before hval0 hW hcnd _
  have hval : ∀ (j : Nat) t v, Try.f5.params[j]? = some t → args[j]? = some v → Value.okWide Try.prog W .any base t v := hval0
  have hW' := hW
  obtain ⟨p, q, hA0, hV, rfl, hfz, hnd⟩ := hW
  have hA : DataW.TrodAll enc Try.prog W 0 (fun _ => true) true Try.f5.params.toList args.toList ds p := hA0
  rw [Try.params5] at hA hval
  obtain ⟨v0, v1, v2, d0, d1, d2, p0, p1, p2, rfl, rfl, rfl, h0, h1, h2⟩ := trodAll_three hA
  obtain ⟨rfl, rfl⟩ := trodVars_none hV
  obtain ⟨⟨ar, az, aw⟩, ka, ra⟩ := arg_struct Try.underlying25 (hval 0 25 v0 rfl rfl) (by kernel_rfl) rep_foot h0
  obtain ⟨⟨br, bz, bw⟩, kb, rb⟩ := arg_struct Try.underlying25 (hval 1 25 v1 rfl rfl) (by kernel_rfl) rep_foot h1
  obtain ⟨⟨kt, kk⟩, kc, rc⟩ := arg_struct Try.underlying30 (hval 2 30 v2 rfl rfl) (by kernel_rfl) rep_key h2
  have hcalls := calls_sc (args' := #[v0, v1, v2]) (sr_lay (St.empty 0).get W) (wf_empty 0) (fun i h => absurd h (dom_lay W i)) (.cons ra (.cons rb (.cons rc .nil))) ((law_sc ar az aw br bz bw kt kk ka).up fun _ _ h => h.1)
  refine hcalls.mono fun e W' ⟨he, hw⟩ => ?_
  subst he
  exact ⟨_, rfl, post_true (tb := 4) hW' rfl hw Try.laidOut (by kernel_rfl) (by kernel_rfl) (by kernel_rfl) rfl rfl rfl⟩
theorem footMeets_holds : Rows.FootMeetsSaid :=
  OpenClaim.holds_of_wide 5 Try.f5 rfl rfl rfl rfl rfl rfl rfl ⟨rfl, rfl, rfl, rfl, rfl⟩ rfl rfl rfl rfl rfl (by kernel_rfl) Try.func5 (by kernel_rfl)
    (of_decide_eq_true (by kernel_rfl)) (by unfold Func.isWrapper; first | (rw [if_pos (by decide +kernel)]; kernel_rfl) | (rw [if_neg (by decide +kernel)]; exact ⟨rfl, rfl⟩))
    (fun os started H enc _ => meets_lifted os started H enc)
#print axioms footMeets_holds
end Go.Proofs.Ytekeepgjegkedaa
