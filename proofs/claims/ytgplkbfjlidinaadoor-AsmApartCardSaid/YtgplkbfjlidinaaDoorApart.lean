/- For every two programs AsmApart answers true and leaves its arguments as they were. Conditions: the listed package variables hold what the text of the program lays there (the card ties them to the text). -/
import Derived.Test.YtgplkbfjlidinaaDoorLawApart
import Derived.Test.YtgplkbfjlidinaaDoorLaid
import Derived.Test.YtgplkbfjlidinaaDoorCards
import Derived.Test.YtgplkbfjlidinaaDoorTie
import Derived.SevenTiedAt
set_option linter.unusedVariables false
set_option linter.unusedSimpArgs false
set_option linter.unnecessarySimpa false
namespace Go.Proofs.YtgplkbfjlidinaaDoor
open Go.ChangeShapes Go.WideShapes Go.ChangeAt Go.RowKit Go.Ai
set_option maxRecDepth 100000 in
theorem asmApart_lifted (os : Os) (started : os.Started) (H : Type) (enc : TypeId × Value → H) :
    ReturnsInHanded {} Tryd.checked os 4 .any (fun w args => (Rows.asmApartSpec.pre enc Tryd.prog Tryd.f4 Rows.asmApartRow.domain false w args ∧ laidMetH Tryd.prog seatLaid w) ∧ sizedMet enc Tryd.prog Tryd.f4 (OpenSpec.ofChange Rows.asmApartSpec) false w args)
      (Rows.asmApartSpec.post enc Tryd.prog Tryd.f4 false true false false) := by
  refine returnsInHanded_of_change_and (C := Tryd.checked) (X := fun w _ => laidMetH Tryd.prog seatLaid w) (fun _ _ _ hh h => h.of_heap hh) Tryd.own started (by kernel_rfl) Tryd.func4
    (ChangeSpec.witness_shaped (enc := enc) (C := Tryd.checked) (os := os) (X := fun w _ => laidMetH Tryd.prog seatLaid w) false (World.laidAll Tryd.prog os seatLaid) #[.agg #[.int .i64 0, .slice none 0 0], .agg #[.int .i64 0, .slice none 0 0]] 8 (World.laidAll_os _ _ _)
      (World.shaped_of_ZipB (by kernel_rfl) (by kernel_rfl)) (by kernel_rfl) (by kernel_rfl) (by kernel_rfl)
      (by rw [MakeChecks.laidMetH_plain _ _ _ (by kernel_rfl)]; exact laidMet_laidAll _ (by kernel_rfl) (by kernel_rfl))) ?_
  intro W base args ds gs before hval0 hW _ _ hlaid _
  have hval : ∀ (j : Nat) t v, Tryd.f4.params[j]? = some t → args[j]? = some v → Value.okWide Tryd.prog W .any base t v := hval0
  have hW' := hW
  obtain ⟨p, q, hA0, hV, rfl, hfz, hnd⟩ := hW
  have hA : DataW.TrodAll enc Tryd.prog W 0 (fun _ => true) true Tryd.f4.params.toList args.toList ds p := hA0
  rw [Tryd.params4] at hA hval
  obtain ⟨v0, v1, d0, d1, p0, p1, rfl, rfl, rfl, h0, h1⟩ := trodAll_two hA
  obtain ⟨rfl, rfl⟩ := trodVars_none hV
  obtain ⟨⟨fu, co⟩, k0, r0⟩ := arg_struct Tryd.underlying39 (hval 0 39 v0 rfl rfl) (by kernel_rfl) rep_prog h0
  obtain ⟨⟨fv, cp⟩, k1, r1⟩ := arg_struct Tryd.underlying39 (hval 1 39 v1 rfl rfl) (by kernel_rfl) rep_prog h1
  have hcalls := calls_scG (G := 1001) (args' := #[v0, v1]) (sr_layG (St.empty 0).get W) (tab_glob (laid_tab hlaid)) (wf_empty 0) (fun i h => absurd h (dom_layG W i)) (.cons (r0.mono lay_leG) (.cons (r1.mono lay_leG) .nil)) ((lawApart_sc fu co fv cp k0.1 k0.2.2 k1.1 k1.2.2).up fun _ _ h => h.1)
  refine hcalls.mono fun e W' ⟨he, hw⟩ => ?_
  subst he
  exact ⟨_, rfl, post_true (tb := 4) hW' rfl hw Tryd.laidOut (by kernel_rfl) (by kernel_rfl) (by kernel_rfl) rfl rfl rfl⟩
theorem asmApart_row_holds : Rows.AsmApartSaid :=
  OpenClaim.holds_of_wide 4 Tryd.f4 rfl rfl rfl rfl rfl rfl rfl ⟨rfl, rfl, rfl, rfl, rfl⟩ rfl rfl rfl rfl rfl (by kernel_rfl) Tryd.func4 (by kernel_rfl)
    (of_decide_eq_true (by kernel_rfl)) (by unfold Func.isWrapper; first | (rw [if_pos (by decide +kernel)]; kernel_rfl) | (rw [if_neg (by decide +kernel)]; exact ⟨rfl, rfl⟩))
    (fun os started H enc _ => asmApart_lifted os started H enc)
set_option maxRecDepth 100000 in
theorem asmApart_wf : Rows.asmApartRow.wfByText (OpenSpec.ofChange Rows.asmApartSpec) = true := by kernel_rfl
set_option maxRecDepth 100000 in
theorem asmApart_main : Tryd.pinned.checked.prog.mainIs = some (true, "cd1525efc0376700508984b5e2ae094d1ea58c92571d72c2f9b011e93e6cf388".toList) := by kernel_rfl
set_option maxRecDepth 100000 in
theorem asmApart_looks : true = Tryd.pinned.checked.prog.looks [] := by kernel_rfl
set_option maxRecDepth 100000 in
theorem asmApart_goes : false = Rows.asmApartRow.goesBy Tryd.pinned.checked.prog := by kernel_rfl
set_option maxRecDepth 100000 in
theorem asmApart_named : Tryd.prog.funcNamed "sluiceway/sluicewaylaw07.AsmApart" = some 4 := by kernel_rfl
set_option maxRecDepth 100000 in
theorem asmApart_stand : ([39, 39].all fun u => !Tryd.prog.wantsStandIn u) = true := by kernel_rfl
theorem asmApart_holds : Rows.AsmApartCardSaid :=
  Claim7.holds_tied_plain_at .later [] [.data, .data, .data, .data, .pinned] true (true, "cd1525efc0376700508984b5e2ae094d1ea58c92571d72c2f9b011e93e6cf388") true asmApart_row_holds (fun _ h => by cases h) asmApart_wf (fun _ h => by cases h) asmApart_row_tie rfl ⟨rfl, rfl⟩ asmApart_main rfl
    (fun f fn hf hfn => by
      obtain rfl : f = 4 := Option.some.inj (asmApart_named.symm.trans hf) |>.symm
      obtain rfl : fn = Tryd.f4 := (Option.some.inj (Tryd.func4.symm.trans hfn)).symm
      exact ⟨asmApart_looks, fun j t ht => by
        rw [Tryd.params4] at ht
        have hm : t ∈ ([39, 39] : List Nat) := by simpa using Array.mem_of_getElem? ht
        exact (show Tryd.prog.wantsStandIn t = false by simpa using List.all_eq_true.1 asmApart_stand t hm)⟩)
    asmApart_goes
#print axioms asmApart_holds
end Go.Proofs.YtgplkbfjlidinaaDoor
