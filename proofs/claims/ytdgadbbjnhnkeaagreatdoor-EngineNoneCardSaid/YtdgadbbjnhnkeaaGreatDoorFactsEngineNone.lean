/- The closed facts of engineNone's row, one by one. -/
import Derived.Test.YtdgadbbjnhnkeaaGreatDoorRows
import Derived.ProofKit
set_option linter.unusedVariables false
set_option linter.unusedSimpArgs false
set_option linter.unnecessarySimpa false
namespace Go.Proofs.YtdgadbbjnhnkeaaGreatDoor
open Go
set_option maxRecDepth 100000 in
theorem engineNone_fact0 : (Rows.engineNoneRow.wf (OpenSpec.ofChange Rows.engineNoneSpec)) = true := by kernel_rfl
set_option maxRecDepth 100000 in
theorem engineNone_fact1 : (laidOutB Tryz.prog) = true := by kernel_rfl
set_option maxRecDepth 100000 in
theorem engineNone_fact2 : (mapsRowed Tryz.prog) = true := by kernel_rfl
set_option maxRecDepth 100000 in
theorem engineNone_fact3 : (Tryz.f4.params.all (Tryz.prog.readableRec ·)) = true := by kernel_rfl
set_option maxRecDepth 100000 in
theorem engineNone_fact4 : (namedTie Tryz.prog Rows.engineNoneRow.named Rows.engineNoneSpec.vars) = true := by kernel_rfl
set_option maxRecDepth 100000 in
theorem engineNone_fact5 : ((Rows.engineNoneRow.stops == [])) = true := by kernel_rfl
set_option maxRecDepth 100000 in
theorem engineNone_fact6 : ((Tryz.prog.stops == [])) = true := by kernel_rfl
set_option maxRecDepth 100000 in
theorem engineNone_fact7 : ((Rows.engineNoneRow.knobs == [])) = true := by kernel_rfl
set_option maxRecDepth 100000 in
theorem engineNone_fact8 : ((Tryz.prog.stopKnobs == [])) = true := by kernel_rfl
set_option maxRecDepth 100000 in
theorem engineNone_fact9 : ((Rows.engineNoneRow.inPlace == Tryz.prog.inPlace 4)) = true := by kernel_rfl
set_option maxRecDepth 100000 in
theorem engineNone_fact10 : ((Rows.engineNoneRow.unfollowed == Tryz.prog.unfollowed 4)) = true := by kernel_rfl
set_option maxRecDepth 100000 in
theorem engineNone_fact11 : ((Rows.engineNoneRow.recurses == Tryz.prog.recurses 4)) = true := by kernel_rfl
set_option maxRecDepth 100000 in
theorem engineNone_fact12 : ((Rows.engineNoneRow.named == Tryz.prog.varsNamed 4)) = true := by kernel_rfl
set_option maxRecDepth 100000 in
theorem engineNone_fact13 : ((Rows.engineNoneRow.maps == (Tryz.f4.params.toList ++ Rows.engineNoneSpec.plain.varTypes Tryz.prog).any (Tryz.prog.mapsRec ·))) = true := by kernel_rfl
set_option maxRecDepth 100000 in
theorem engineNone_fact14 : ((Rows.engineNoneRow.ifaces == (Tryz.f4.params.toList ++ Rows.engineNoneSpec.plain.varTypes Tryz.prog).any (Tryz.prog.ifacesRec ·))) = true := by kernel_rfl
set_option maxRecDepth 100000 in
theorem engineNone_fact15 : ((Rows.engineNoneRow.mapsOut == Tryz.prog.mapsAmong Tryz.f4.resultTypes.toList)) = true := by kernel_rfl
set_option maxRecDepth 100000 in
theorem engineNone_fact16 : ((Rows.engineNoneRow.loops == (Tryz.f4.params.toList ++ Rows.engineNoneSpec.plain.varTypes Tryz.prog).any (Tryz.prog.loopsFrom ·))) = true := by kernel_rfl
set_option maxRecDepth 100000 in
theorem engineNone_fact17 : ((Rows.engineNoneRow.wideKeys == (Tryz.f4.params.toList ++ Rows.engineNoneSpec.plain.varTypes Tryz.prog ++ Tryz.f4.resultTypes.toList).any (Tryz.prog.wideKeysFrom ·))) = true := by kernel_rfl
set_option maxRecDepth 100000 in
theorem engineNone_fact18 : (Rows.engineNoneSpec.vars.all (Tryz.prog.varReadable ·)) = true := by kernel_rfl
set_option maxRecDepth 100000 in
theorem engineNone_fact19 : (Tryz.f4.resultTypes.all (fun t => Tryz.prog.readableRec t && decide (t < Tryz.prog.types.size))) = true := by kernel_rfl
set_option maxRecDepth 100000 in
theorem engineNone_fact20 : ((Rows.engineNoneRow.ifacesOut == Tryz.f4.resultTypes.toList.any (Tryz.prog.ifacesRec ·))) = true := by kernel_rfl
set_option maxRecDepth 100000 in
theorem engineNone_fact21 : ((Rows.engineNoneRow.loopsOut == Tryz.f4.resultTypes.toList.any (Tryz.prog.loopsFrom ·))) = true := by kernel_rfl
set_option maxRecDepth 100000 in
theorem engineNone_fact22 : ((Rows.engineNoneRow.plainKeys == Tryz.prog.plainKeys)) = true := by kernel_rfl
set_option maxRecDepth 100000 in
theorem engineNone_fact23 : (Rows.engineNoneRow.shortTexts.isNone) = true := by kernel_rfl
set_option maxRecDepth 100000 in
theorem engineNone_fact24 : (Tryz.prog.stopsHeard) = true := by kernel_rfl
set_option maxRecDepth 100000 in
theorem engineNone_fact25 : (Tryz.prog.mayEnter) = true := by kernel_rfl
set_option maxRecDepth 100000 in
theorem engineNone_fact26 : ((Rows.engineNoneRow.lifted == Tryz.prog.liftsFinal)) = true := by kernel_rfl
set_option maxRecDepth 100000 in
theorem engineNone_fact27 : ((Tryz.prog.make == some Rows.engineNoneRow.make)) = true := by kernel_rfl
set_option maxRecDepth 100000 in
theorem engineNone_fact28 : ((Rows.engineNoneRow.kinds == (if Rows.engineNoneRow.domain.isEmpty then [] else Tryz.f4.params.toList.map fun t => match Tryz.prog.underlying t with | some (.int k) => some k | _ => none))) = true := by kernel_rfl
set_option maxRecDepth 100000 in
theorem engineNone_fact29 : ((Rows.engineNoneRow.pinned == Rows.engineNoneRow.pinnedBy)) = true := by kernel_rfl
set_option maxRecDepth 100000 in
theorem engineNone_fact30 : ((Rows.engineNoneRow.veiled == (Tryz.f4.params.toList ++ Rows.engineNoneSpec.plain.varTypes Tryz.prog ++ Tryz.f4.resultTypes.toList).any (Tryz.prog.veiledRec ·))) = true := by kernel_rfl
set_option maxRecDepth 100000 in
theorem engineNone_fact31 : (Rows.engineNoneRow.veiledFits Tryz.prog Tryz.f4.params.toList (Tryz.f4.params.toList ++ Rows.engineNoneSpec.plain.varTypes Tryz.prog ++ Tryz.f4.resultTypes.toList)) = true := by kernel_rfl
set_option maxRecDepth 100000 in
theorem engineNone_facts : joinedFacts Tryz.prog 4 Tryz.f4 Rows.engineNoneSpec Rows.engineNoneRow = true := by
  unfold joinedFacts
  simp only [Bool.and_eq_true]
  exact ⟨⟨⟨⟨⟨⟨⟨⟨⟨⟨⟨⟨⟨⟨⟨⟨⟨⟨⟨⟨⟨⟨⟨⟨⟨⟨⟨⟨⟨⟨⟨engineNone_fact0, engineNone_fact1⟩, engineNone_fact2⟩, engineNone_fact3⟩, engineNone_fact4⟩, engineNone_fact5⟩, engineNone_fact6⟩, engineNone_fact7⟩, engineNone_fact8⟩, engineNone_fact9⟩, engineNone_fact10⟩, engineNone_fact11⟩, engineNone_fact12⟩, engineNone_fact13⟩, engineNone_fact14⟩, engineNone_fact15⟩, engineNone_fact16⟩, engineNone_fact17⟩, engineNone_fact18⟩, engineNone_fact19⟩, engineNone_fact20⟩, engineNone_fact21⟩, engineNone_fact22⟩, engineNone_fact23⟩, engineNone_fact24⟩, engineNone_fact25⟩, engineNone_fact26⟩, engineNone_fact27⟩, engineNone_fact28⟩, engineNone_fact29⟩, engineNone_fact30⟩, engineNone_fact31⟩
end Go.Proofs.YtdgadbbjnhnkeaaGreatDoor