/- For every program, every configuration and every number EngineNone answers true and leaves its arguments as they were. Conditions: the three listed package variables hold what the text of the program lays there (the card ties them to the text). -/
import Derived.Test.YtdgadbbjnhnkeaaGreatDoorEngLift
import Derived.Test.YtdgadbbjnhnkeaaGreatDoorFactsEngineNone
import Derived.Test.YtdgadbbjnhnkeaaGreatDoorCards
import Derived.Test.YtdgadbbjnhnkeaaGreatDoorTie
import Derived.SevenTiedAt
set_option linter.unusedVariables false
set_option linter.unusedSimpArgs false
set_option linter.unnecessarySimpa false
namespace Go.Proofs.YtdgadbbjnhnkeaaGreatDoor
open Go.ChangeShapes Go.WideShapes Go.ChangeAt Go.RowKit Go.Ai
theorem engineNone_row_holds : Rows.EngineNoneSaid :=
  OpenClaim.holds_of_wide 4 Tryz.f4 rfl rfl rfl rfl rfl rfl rfl ⟨rfl, rfl, rfl, rfl, rfl⟩ rfl rfl rfl rfl rfl (by kernel_rfl) Tryz.func4 engineNone_facts
    (of_decide_eq_true (by kernel_rfl)) (by unfold Func.isWrapper; first | (rw [if_pos (by decide +kernel)]; kernel_rfl) | (rw [if_neg (by decide +kernel)]; exact ⟨rfl, rfl⟩))
    (fun os started H enc _ => engineNone_lifted os started H enc)
set_option maxRecDepth 100000 in
theorem engineNone_wf : Rows.engineNoneRow.wfByText (OpenSpec.ofChange Rows.engineNoneSpec) = true := by kernel_rfl
set_option maxRecDepth 100000 in
theorem tryz_main : Tryz.pinned.checked.prog.mainIs = some (true, "b662a9592b132d34ff4ad9775a3b142cc0c6b06be76facf16519e978be9252d7".toList) := by kernel_rfl
set_option maxRecDepth 100000 in
theorem tryz_looks : true = Tryz.pinned.checked.prog.looks [] := by kernel_rfl
set_option maxRecDepth 100000 in
theorem engineNone_goes : false = Rows.engineNoneRow.goesBy Tryz.pinned.checked.prog := by kernel_rfl
set_option maxRecDepth 100000 in
theorem engineNone_named : Tryz.prog.funcNamed "sluiceway/sluicewaylaw23.EngineNone" = some 4 := by kernel_rfl
set_option maxRecDepth 100000 in
theorem engineNone_stand : ([24, 51, 3].all fun u => !Tryz.prog.wantsStandIn u) = true := by kernel_rfl
theorem engineNone_holds : Rows.EngineNoneCardSaid :=
  Claim7.holds_tied_plain_at .later [] [.sentinel, .sentinel, .sentinel] true (true, "b662a9592b132d34ff4ad9775a3b142cc0c6b06be76facf16519e978be9252d7") true engineNone_row_holds (fun _ h => by cases h) engineNone_wf (fun _ h => by cases h) engineNone_row_tie rfl ⟨rfl, rfl⟩ tryz_main rfl
    (fun f fn hf hfn => by
      obtain rfl : f = 4 := Option.some.inj (engineNone_named.symm.trans hf) |>.symm
      obtain rfl : fn = Tryz.f4 := (Option.some.inj (Tryz.func4.symm.trans hfn)).symm
      exact ⟨tryz_looks, fun j t ht => by
        rw [Tryz.params4] at ht
        have hm : t ∈ [24, 51, 3] := by simpa using Array.mem_of_getElem? ht
        exact (show Tryz.prog.wantsStandIn t = false by simpa using List.all_eq_true.1 engineNone_stand t hm)⟩)
    engineNone_goes
end Go.Proofs.YtdgadbbjnhnkeaaGreatDoor
