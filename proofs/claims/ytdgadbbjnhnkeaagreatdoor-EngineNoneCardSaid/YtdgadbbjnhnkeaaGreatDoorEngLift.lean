/- EngineNone at whatever input. -/
import Derived.Test.YtdgadbbjnhnkeaaGreatDoorEngLaw
import Derived.Test.YtdgadbbjnhnkeaaGreatDoorLaid
set_option linter.unusedVariables false
set_option linter.unusedSimpArgs false
set_option linter.unnecessarySimpa false
namespace Go.Proofs.YtdgadbbjnhnkeaaGreatDoor
open Go.ChangeShapes Go.WideShapes Go.ChangeAt Go.RowKit Go.Ai
theorem rep_one : Rep Tryz.prog 1 3 icells (fun _ : Int => True) := (rep_int Tryz.underlying3).map (fun x => x) (fun _ => rfl) fun _ _ => trivial
noncomputable def qcells (x : List Int × Int × Int × Int × Int × Int × Int × Int) : List Value := [inlL icells 1 x.1, .int .i64 x.2.1, .int .i64 x.2.2.1, .int .i64 x.2.2.2.1, .int .i64 x.2.2.2.2.1, .int .i64 x.2.2.2.2.2.1, .int .i64 x.2.2.2.2.2.2.1, .int .i64 x.2.2.2.2.2.2.2]
theorem rep_start : Rep Tryz.prog 3 51 qcells (fun _ => True) :=
  (rep_struct Tryz.underlying51 (repF_cons (rep_slice Tryz.underlying49 (by kernel_rfl) rep_one) (repF_cons (rep_int Tryz.underlying3) (repF_cons (rep_int Tryz.underlying3)
    (repF_one (rep_struct Tryz.underlying41 (repF_cons (rep_int Tryz.underlying3) (repF_cons (rep_int Tryz.underlying3) (repF_cons (rep_int Tryz.underlying3) (repF_cons (rep_int Tryz.underlying3) (repF_one (rep_int Tryz.underlying3)))))))))))).map
    (fun x => x) (fun _ => rfl) fun _ _ => trivial
set_option maxRecDepth 100000 in
theorem engineNone_lifted (os : Os) (started : os.Started) (H : Type) (enc : TypeId × Value → H) :
    ReturnsInHanded {} Tryz.checked os 4 .any (fun w args => (Rows.engineNoneSpec.pre enc Tryz.prog Tryz.f4 Rows.engineNoneRow.domain false w args ∧ laidMetH Tryz.prog seatLaid w) ∧ sizedMet enc Tryz.prog Tryz.f4 (OpenSpec.ofChange Rows.engineNoneSpec) false w args)
      (Rows.engineNoneSpec.post enc Tryz.prog Tryz.f4 false true false false) := by
  refine returnsInHanded_of_change_and (C := Tryz.checked) (X := fun w _ => laidMetH Tryz.prog seatLaid w) (fun _ _ _ hh h => h.of_heap hh) Tryz.own started (by kernel_rfl) Tryz.func4
    (ChangeSpec.witness_shaped (enc := enc) (C := Tryz.checked) (os := os) (X := fun w _ => laidMetH Tryz.prog seatLaid w) false (World.laidAll Tryz.prog os seatLaid) #[.agg #[.int .i64 0, .slice none 0 0], .agg #[.slice none 0 0, .int .i64 0, .int .i64 0, .int .i64 0, .int .i64 0, .int .i64 0, .int .i64 0, .int .i64 0], .int .i64 0] 8 (World.laidAll_os _ _ _)
      (World.shaped_of_ZipB (by kernel_rfl) (by kernel_rfl)) (by kernel_rfl) (by kernel_rfl) (by kernel_rfl)
      (by rw [MakeChecks.laidMetH_plain _ _ _ (by kernel_rfl)]; exact laidMet_laidAll _ (by kernel_rfl) (by kernel_rfl))) ?_
  intro W base args ds gs before hval0 hW _ _ hlaid _
  have hval : ∀ (j : Nat) t v, Tryz.f4.params[j]? = some t → args[j]? = some v → Value.okWide Tryz.prog W .any base t v := hval0
  have hW' := hW
  obtain ⟨p, q, hA0, hV, rfl, hfz, hnd⟩ := hW
  have hA : DataW.TrodAll enc Tryz.prog W 0 (fun _ => true) true Tryz.f4.params.toList args.toList ds p := hA0
  rw [Tryz.params4] at hA hval
  obtain ⟨v0, v1, v2, d0, d1, d2, p0, p1, p2, rfl, rfl, rfl, h0, h1, h2⟩ := trodAll_three hA
  obtain ⟨rfl, rfl⟩ := trodVars_none hV
  obtain ⟨⟨fu, co⟩, k1, ra⟩ := arg_struct Tryz.underlying24 (hval 0 24 v0 rfl rfl) (by kernel_rfl) rep_prog h0
  obtain ⟨⟨sz, st_, wk, b0, b1, b2, b3, pl⟩, _, rb⟩ := arg_struct Tryz.underlying51 (hval 1 51 v1 rfl rfl) (by kernel_rfl) rep_start h1
  obtain ⟨n, _, rc⟩ := arg_int (n := 1) Tryz.underlying3 (hval 2 3 v2 rfl rfl) (by kernel_rfl) (rep_int Tryz.underlying3) h2
  have hcalls := calls_scG (G := 3) (args' := #[v0, v1, v2]) (sr_lay3 (laid_errs hlaid)) glob_lay3 (glob3_wf 532) shut_lay3 (.cons (ra.mono lay_le3) (.cons (rb.mono lay_le3) (.cons (rc.mono lay_le3) .nil))) (glaw_sc fu co sz st_ b0 b1 b2 b3 pl wk n)
  refine hcalls.mono fun e W' ⟨he, hw⟩ => ?_
  subst he
  exact ⟨_, rfl, post_true (tb := 4) hW' rfl hw Tryz.laidOut (by kernel_rfl) (by kernel_rfl) (by kernel_rfl) rfl rfl rfl⟩
end Go.Proofs.YtdgadbbjnhnkeaaGreatDoor