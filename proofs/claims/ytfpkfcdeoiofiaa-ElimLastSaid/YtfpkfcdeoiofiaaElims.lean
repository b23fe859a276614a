/- For every list of records ElimLast answers true and leaves its argument as it was. No condition. -/
import Derived.Test.YtfpkfcdeoiofiaaLawF
import Derived.Test.YtfpkfcdeoiofiaaAiCon
set_option linter.unusedVariables false
set_option linter.unusedSimpArgs false
set_option linter.unnecessarySimpa false
namespace Go.Proofs.Ytfpkfcdeoiofiaa
open Go.ChangeShapes Go.WideShapes Go.ChangeAt Go.RowKit Go.Ai
theorem Try.own : ownKnob Try.prog.godebug = none := by kernel_rfl
theorem Try.laidOut : laidOutB Try.prog = true := by kernel_rfl
theorem i64 {n : Int} (h : IntKind.i64.min ≤ n ∧ n ≤ IntKind.i64.max) : in64 n := ⟨h.1, Int.lt_add_one_of_le h.2⟩
theorem rep_key : Rep Try.prog 3 43 kcells (fun k : Key => in64 k.1 ∧ in64 k.2) :=
  (rep_struct Try.underlying43 (repF_cons (rep_int Try.underlying3) (repF_one (rep_int Try.underlying3)))).map (fun x => x) (fun _ => rfl) fun x h => ⟨i64 h.1, i64 h.2⟩
theorem rep_span : Rep Try.prog 3 66 scells (fun _ : Span => True) :=
  (rep_struct Try.underlying66 (repF_cons (rep_int Try.underlying3) (repF_cons (rep_int Try.underlying3) (repF_one (rep_int Try.underlying3))))).map (fun x => x) (fun _ => rfl) fun _ _ => trivial
theorem rep_code : Rep Try.prog 3 63 ccells (fun _ : Code => True) :=
  (rep_struct Try.underlying63 (repF_cons (rep_int Try.underlying3) (repF_cons (rep_int Try.underlying3) (repF_cons (rep_int Try.underlying3) (repF_cons (rep_int Try.underlying3) (repF_cons (rep_int Try.underlying3) (repF_one (rep_int Try.underlying3)))))))).map (fun x => x) (fun _ => rfl) fun _ _ => trivial
theorem rep_write : Rep Try.prog 4 45 wcells (fun _ : Wr => True) :=
  (rep_struct Try.underlying45 (repF_cons rep_key (repF_cons (rep_int Try.underlying3) (repF_one (rep_bool Try.underlying4))))).map (fun x => (x.1.1, x.1.2, x.2.1, x.2.2)) (fun _ => rfl) fun _ _ => trivial
theorem rep_rec : Rep Try.prog 6 48 rcells (fun _ : Rec8 => True) :=
  (rep_struct Try.underlying48 (repF_cons (rep_int Try.underlying3) (repF_cons (rep_bool Try.underlying4)
    (repF_cons (rep_struct Try.underlying31 (repF_cons (rep_int Try.underlying3) (repF_one (rep_slice Try.underlying29 (by kernel_rfl) rep_code))))
      (repF_cons (rep_struct Try.underlying35 (repF_cons (rep_slice Try.underlying32 (by kernel_rfl) rep_key) (repF_cons (rep_slice Try.underlying33 (by kernel_rfl) rep_span) (repF_one (rep_slice Try.underlying32 (by kernel_rfl) rep_key)))))
        (repF_one (rep_slice Try.underlying36 (by kernel_rfl) rep_write))))))).map (fun x => (x.1, x.2.1, x.2.2.1.1, x.2.2.1.2, x.2.2.2.1.1, x.2.2.2.1.2.1, x.2.2.2.1.2.2, x.2.2.2.2)) (fun _ => rfl)
    fun _ _ => trivial
set_option maxRecDepth 100000 in
theorem elims_lifted (os : Os) (started : os.Started) (H : Type) (enc : TypeId × Value → H) :
    ReturnsInHanded {} Try.checked os 3 .any (Rows.elimLastSpec.pre6 enc Try.prog Try.f3 Rows.elimLastRow.domain false) (Rows.elimLastSpec.post enc Try.prog Try.f3 false true false false) := by
  refine returnsInHanded_of_change (C := Try.checked) Try.own started (by kernel_rfl) Try.func3
    (ChangeSpec.witness6 (enc := enc) (C := Try.checked) false ⟨#[], #[.slice none 0 0], []⟩ 8 (by kernel_rfl) (by kernel_rfl) (by kernel_rfl) (by kernel_rfl)) ?_
  intro W base args ds gs before hval0 hW hcnd _
  have hval : ∀ (j : Nat) t v, Try.f3.params[j]? = some t → args[j]? = some v → Value.okWide Try.prog W .any base t v := hval0
  have hW' := hW
  obtain ⟨p, q, hA0, hV, rfl, hfz, hnd⟩ := hW
  have hA : DataW.TrodAll enc Try.prog W 0 (fun _ => true) true Try.f3.params.toList args.toList ds p := hA0
  rw [Try.params3] at hA hval
  obtain ⟨v0, d0, rfl, rfl, h0⟩ := trodAll_one hA
  obtain ⟨rfl, rfl⟩ := trodVars_none hV
  obtain ⟨l, ka, ra⟩ := arg_slice (g := fun l : List Rec8 => inlL rcells 8 l) Try.underlying22 (hval 0 22 v0 rfl rfl) (by kernel_rfl) (rep_slice Try.underlying22 (by kernel_rfl) rep_rec) h0
  have hcalls := calls_sc (args' := #[v0]) (sr_lay (St.empty 0).get W) (wf_empty 0) (fun i h => absurd h (dom_lay W i)) (.cons ra .nil) ((law20_sc l ka.1).up fun _ _ h => h.1)
  refine hcalls.mono fun e W' ⟨he, hw⟩ => ?_
  subst he
  exact ⟨_, rfl, post_true (tb := 4) hW' rfl hw Try.laidOut (by kernel_rfl) (by kernel_rfl) (by kernel_rfl) rfl rfl rfl⟩
theorem elimLast_holds : Rows.ElimLastSaid :=
  OpenClaim.holds_of_wide 3 Try.f3 rfl rfl rfl rfl rfl rfl rfl ⟨rfl, rfl, rfl, rfl, rfl⟩ rfl rfl rfl rfl rfl (by kernel_rfl) Try.func3 (by kernel_rfl)
    (of_decide_eq_true (by kernel_rfl)) (by unfold Func.isWrapper; first | (rw [if_pos (by decide +kernel)]; kernel_rfl) | (rw [if_neg (by decide +kernel)]; exact ⟨rfl, rfl⟩))
    (fun os started H enc _ => elims_lifted os started H enc)
#print axioms elimLast_holds
end Go.Proofs.Ytfpkfcdeoiofiaa
