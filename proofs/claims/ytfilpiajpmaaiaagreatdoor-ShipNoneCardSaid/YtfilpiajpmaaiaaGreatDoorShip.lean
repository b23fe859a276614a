/- For every parcel and every key ShipNone answers true and leaves its arguments as they were. Conditions: the three listed package variables hold what the text of the program lays there (the card ties them to the text). -/
import Derived.Test.YtfilpiajpmaaiaaGreatDoorLift
import Derived.Test.YtfilpiajpmaaiaaGreatDoorFactsShipNone
import Derived.Test.YtfilpiajpmaaiaaGreatDoorCards
import Derived.Test.YtfilpiajpmaaiaaGreatDoorTie
import Derived.SevenTiedAt
set_option linter.unusedVariables false
set_option linter.unusedSimpArgs false
set_option linter.unnecessarySimpa false
namespace Go.Proofs.YtfilpiajpmaaiaaGreatDoor
open Go.ChangeShapes Go.WideShapes Go.ChangeAt Go.RowKit Go.Ai
theorem shipNone_row_holds : Rows.ShipNoneSaid :=
  OpenClaim.holds_of_wide 3 Tryz.f3 rfl rfl rfl rfl rfl rfl rfl ⟨rfl, rfl, rfl, rfl, rfl⟩ rfl rfl rfl rfl rfl (by kernel_rfl) Tryz.func3 shipNone_facts
    (of_decide_eq_true (by kernel_rfl)) (by unfold Func.isWrapper; first | (rw [if_pos (by decide +kernel)]; kernel_rfl) | (rw [if_neg (by decide +kernel)]; exact ⟨rfl, rfl⟩))
    (fun os started H enc _ => shipNone_lifted os started H enc)
set_option maxRecDepth 100000 in
theorem shipNone_wf : Rows.shipNoneRow.wfByText (OpenSpec.ofChange Rows.shipNoneSpec) = true := by kernel_rfl
set_option maxRecDepth 100000 in
theorem tryz_main : Tryz.pinned.checked.prog.mainIs = some (true, "40a9def2740ce027acfe26b6af2aa72b81b3588806fa7a9731b6d8ce32760ddf".toList) := by kernel_rfl
set_option maxRecDepth 100000 in
theorem tryz_looks : true = Tryz.pinned.checked.prog.looks [] := by kernel_rfl
set_option maxRecDepth 100000 in
theorem shipNone_goes : false = Rows.shipNoneRow.goesBy Tryz.pinned.checked.prog := by kernel_rfl
set_option maxRecDepth 100000 in
theorem shipNone_named : Tryz.prog.funcNamed "sluiceway/sluicewaylaw26.ShipNone" = some 3 := by kernel_rfl
set_option maxRecDepth 100000 in
theorem shipNone_stand : ([25, 27].all fun u => !Tryz.prog.wantsStandIn u) = true := by kernel_rfl
theorem shipNone_holds : Rows.ShipNoneCardSaid :=
  Claim7.holds_tied_plain_at .later [] [.sentinel, .sentinel, .sentinel] true (true, "40a9def2740ce027acfe26b6af2aa72b81b3588806fa7a9731b6d8ce32760ddf") true shipNone_row_holds (fun _ h => by cases h) shipNone_wf (fun _ h => by cases h) shipNone_row_tie rfl ⟨rfl, rfl⟩ tryz_main rfl
    (fun f fn hf hfn => by
      obtain rfl : f = 3 := Option.some.inj (shipNone_named.symm.trans hf) |>.symm
      obtain rfl : fn = Tryz.f3 := (Option.some.inj (Tryz.func3.symm.trans hfn)).symm
      exact ⟨tryz_looks, fun j t ht => by
        rw [Tryz.params3] at ht
        have hm : t ∈ [25, 27] := by simpa using Array.mem_of_getElem? ht
        exact (show Tryz.prog.wantsStandIn t = false by simpa using List.all_eq_true.1 shipNone_stand t hm)⟩)
    shipNone_goes
end Go.Proofs.YtfilpiajpmaaiaaGreatDoor
