/- For every instruction and every number AsmLines answers true and leaves its arguments as they were. Conditions: the listed package variables hold what the text of the program lays there (the card ties them to the text). -/
import Derived.Test.YtgplkbfjlidinaaDoorLawLines
import Derived.Test.YtgplkbfjlidinaaDoorLaid
import Derived.Test.YtgplkbfjlidinaaDoorCards
import Derived.Test.YtgplkbfjlidinaaDoorTie
import Derived.SevenTiedAt
set_option linter.unusedVariables false
set_option linter.unusedSimpArgs false
set_option linter.unnecessarySimpa false
namespace Go.Proofs.YtgplkbfjlidinaaDoor
open Go.ChangeShapes Go.WideShapes Go.ChangeAt Go.RowKit Go.Ai
set_option maxRecDepth 100000 in
theorem asmLines_lifted (os : Os) (started : os.Started) (H : Type) (enc : TypeId × Value → H) :
    ReturnsInHanded {} Tryd.checked os 3 .any (fun w args => (Rows.asmLinesSpec.pre enc Tryd.prog Tryd.f3 Rows.asmLinesRow.domain false w args ∧ laidMetH Tryd.prog seatLaid w) ∧ sizedMet enc Tryd.prog Tryd.f3 (OpenSpec.ofChange Rows.asmLinesSpec) false w args)
      (Rows.asmLinesSpec.post enc Tryd.prog Tryd.f3 false true false false) := by
  refine returnsInHanded_of_change_and (C := Tryd.checked) (X := fun w _ => laidMetH Tryd.prog seatLaid w) (fun _ _ _ hh h => h.of_heap hh) Tryd.own started (by kernel_rfl) Tryd.func3
    (ChangeSpec.witness_shaped (enc := enc) (C := Tryd.checked) (os := os) (X := fun w _ => laidMetH Tryd.prog seatLaid w) false (World.laidAll Tryd.prog os seatLaid) #[.agg #[.int .i64 0, .int .i64 0, .int .i64 0, .int .i64 0, .int .i64 0, .int .i64 0], .int .i64 0] 8 (World.laidAll_os _ _ _)
      (World.shaped_of_ZipB (by kernel_rfl) (by kernel_rfl)) (by kernel_rfl) (by kernel_rfl) (by kernel_rfl)
      (by rw [MakeChecks.laidMetH_plain _ _ _ (by kernel_rfl)]; exact laidMet_laidAll _ (by kernel_rfl) (by kernel_rfl))) ?_
  intro W base args ds gs before hval0 hW _ _ hlaid _
  have hval : ∀ (j : Nat) t v, Tryd.f3.params[j]? = some t → args[j]? = some v → Value.okWide Tryd.prog W .any base t v := hval0
  have hW' := hW
  obtain ⟨p, q, hA0, hV, rfl, hfz, hnd⟩ := hW
  have hA : DataW.TrodAll enc Tryd.prog W 0 (fun _ => true) true Tryd.f3.params.toList args.toList ds p := hA0
  rw [Tryd.params3] at hA hval
  obtain ⟨v0, v1, d0, d1, p0, p1, rfl, rfl, rfl, h0, h1⟩ := trodAll_two hA
  obtain ⟨rfl, rfl⟩ := trodVars_none hV
  obtain ⟨⟨op, qa, qb, qc, qt, qn⟩, k0, r0⟩ := arg_struct Tryd.underlying23 (hval 0 23 v0 rfl rfl) (by kernel_rfl) rep_code h0
  obtain ⟨wo, _, r1⟩ := arg_int (n := 1) Tryd.underlying3 (hval 1 3 v1 rfl rfl) (by kernel_rfl) (rep_int Tryd.underlying3) h1
  have hcalls := calls_scG (G := 1001) (args' := #[v0, v1]) (sr_lay (St.empty 0).get W) (tab_glob (laid_tab hlaid)) (wf_empty 0) (fun i h => absurd h (dom_lay W i)) (.cons r0 (.cons r1 .nil)) ((linesLaw_sc op qa qb qc qt qn wo k0).up fun _ _ h => h.1)
  refine hcalls.mono fun e W' ⟨he, hw⟩ => ?_
  subst he
  exact ⟨_, rfl, post_true (tb := 4) hW' rfl hw Tryd.laidOut (by kernel_rfl) (by kernel_rfl) (by kernel_rfl) rfl rfl rfl⟩
theorem asmLines_row_holds : Rows.AsmLinesSaid :=
  OpenClaim.holds_of_wide 3 Tryd.f3 rfl rfl rfl rfl rfl rfl rfl ⟨rfl, rfl, rfl, rfl, rfl⟩ rfl rfl rfl rfl rfl (by kernel_rfl) Tryd.func3 (by kernel_rfl)
    (of_decide_eq_true (by kernel_rfl)) (by unfold Func.isWrapper; first | (rw [if_pos (by decide +kernel)]; kernel_rfl) | (rw [if_neg (by decide +kernel)]; exact ⟨rfl, rfl⟩))
    (fun os started H enc _ => asmLines_lifted os started H enc)
set_option maxRecDepth 100000 in
theorem asmLines_wf : Rows.asmLinesRow.wfByText (OpenSpec.ofChange Rows.asmLinesSpec) = true := by kernel_rfl
set_option maxRecDepth 100000 in
theorem asmLines_main : Tryd.pinned.checked.prog.mainIs = some (true, "cd1525efc0376700508984b5e2ae094d1ea58c92571d72c2f9b011e93e6cf388".toList) := by kernel_rfl
set_option maxRecDepth 100000 in
theorem asmLines_looks : true = Tryd.pinned.checked.prog.looks [] := by kernel_rfl
set_option maxRecDepth 100000 in
theorem asmLines_goes : false = Rows.asmLinesRow.goesBy Tryd.pinned.checked.prog := by kernel_rfl
set_option maxRecDepth 100000 in
theorem asmLines_named : Tryd.prog.funcNamed "sluiceway/sluicewaylaw07.AsmLines" = some 3 := by kernel_rfl
set_option maxRecDepth 100000 in
theorem asmLines_stand : ([23, 3].all fun u => !Tryd.prog.wantsStandIn u) = true := by kernel_rfl
theorem asmLines_holds : Rows.AsmLinesCardSaid :=
  Claim7.holds_tied_plain_at .later [] [.data, .data, .data, .data, .pinned] true (true, "cd1525efc0376700508984b5e2ae094d1ea58c92571d72c2f9b011e93e6cf388") true asmLines_row_holds (fun _ h => by cases h) asmLines_wf (fun _ h => by cases h) asmLines_row_tie rfl ⟨rfl, rfl⟩ asmLines_main rfl
    (fun f fn hf hfn => by
      obtain rfl : f = 3 := Option.some.inj (asmLines_named.symm.trans hf) |>.symm
      obtain rfl : fn = Tryd.f3 := (Option.some.inj (Tryd.func3.symm.trans hfn)).symm
      exact ⟨asmLines_looks, fun j t ht => by
        rw [Tryd.params3] at ht
        have hm : t ∈ ([23, 3] : List Nat) := by simpa using Array.mem_of_getElem? ht
        exact (show Tryd.prog.wantsStandIn t = false by simpa using List.all_eq_true.1 asmLines_stand t hm)⟩)
    asmLines_goes
#print axioms asmLines_holds
end Go.Proofs.YtgplkbfjlidinaaDoor
