/- For all records and every number RedoNone answers true and leaves its arguments as they were. Conditions: the package's two listed variables hold what the program's text lays there (the card ties them to the text). -/
import Derived.Test.YtfnbgfmmlgbfjaaGreatDoorRedoLift
import Derived.Test.YtfnbgfmmlgbfjaaGreatDoorFactsRedoNone
import Derived.Test.YtfnbgfmmlgbfjaaGreatDoorCards
import Derived.Test.YtfnbgfmmlgbfjaaGreatDoorTie
import Derived.SevenTiedAt
namespace Go.Proofs.YtfnbgfmmlgbfjaaGreatDoor
open Go.ChangeShapes Go.WideShapes Go.ChangeAt Go.RowKit Go.Ai
theorem redoNone_row_holds : Rows.RedoNoneSaid :=
  OpenClaim.holds_of_wide 3 Tryz.f3 rfl rfl rfl rfl rfl rfl rfl ⟨rfl, rfl, rfl, rfl, rfl⟩ rfl rfl rfl rfl rfl (by kernel_rfl) Tryz.func3 redoNone_facts
    (of_decide_eq_true (by kernel_rfl)) (by unfold Func.isWrapper; first | (rw [if_pos (by decide +kernel)]; kernel_rfl) | (rw [if_neg (by decide +kernel)]; exact ⟨rfl, rfl⟩))
    (fun os started H enc _ => redoNone_lifted os started H enc)
set_option maxRecDepth 100000 in
theorem redoNone_wf : Rows.redoNoneRow.wfByText (OpenSpec.ofChange Rows.redoNoneSpec) = true := by kernel_rfl
set_option maxRecDepth 100000 in
theorem tryz_main : Tryz.pinned.checked.prog.mainIs = some (true, "c16beb0770215a0f9618b8210f3e8d38bb35a778c2c5deb5a742cc1fd28b2665".toList) := by kernel_rfl
set_option maxRecDepth 100000 in
theorem tryz_looks : true = Tryz.pinned.checked.prog.looks [] := by kernel_rfl
set_option maxRecDepth 100000 in
theorem redoNone_goes : false = Rows.redoNoneRow.goesBy Tryz.pinned.checked.prog := by kernel_rfl
set_option maxRecDepth 100000 in
theorem redoNone_named : Tryz.prog.funcNamed "sluiceway/sluicewaylaw22.RedoNone" = some 3 := by kernel_rfl
set_option maxRecDepth 100000 in
theorem redoNone_stand : ([22, 3].all fun u => !Tryz.prog.wantsStandIn u) = true := by kernel_rfl
theorem redoNone_holds : Rows.RedoNoneCardSaid :=
  Claim7.holds_tied_plain_at .later [] [.sentinel, .sentinel] true (true, "c16beb0770215a0f9618b8210f3e8d38bb35a778c2c5deb5a742cc1fd28b2665") true redoNone_row_holds (fun _ h => by cases h) redoNone_wf (fun _ h => by cases h) redoNone_row_tie rfl ⟨rfl, rfl⟩ tryz_main rfl
    (fun f fn hf hfn => by
      obtain rfl : f = 3 := Option.some.inj (redoNone_named.symm.trans hf) |>.symm
      obtain rfl : fn = Tryz.f3 := (Option.some.inj (Tryz.func3.symm.trans hfn)).symm
      exact ⟨tryz_looks, fun j t ht => by
        rw [Tryz.params3] at ht
        have hm : t ∈ [22, 3] := by simpa using Array.mem_of_getElem? ht
        exact (show Tryz.prog.wantsStandIn t = false by simpa using List.all_eq_true.1 redoNone_stand t hm)⟩)
    redoNone_goes
end Go.Proofs.YtfnbgfmmlgbfjaaGreatDoor
