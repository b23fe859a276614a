/- The closed facts of hallNone's row, one by one. -/
import Derived.Test.YtdgadbbjnhnkeaaGreatDoorRows
import Derived.ProofKit
set_option linter.unusedVariables false
set_option linter.unusedSimpArgs false
set_option linter.unnecessarySimpa false
namespace Go.Proofs.YtdgadbbjnhnkeaaGreatDoor
open Go
set_option maxRecDepth 100000 in
theorem hallNone_fact0 : (Rows.hallNoneRow.wf (OpenSpec.ofChange Rows.hallNoneSpec)) = true := by kernel_rfl
set_option maxRecDepth 100000 in
theorem hallNone_fact1 : (laidOutB Tryz.prog) = true := by kernel_rfl
set_option maxRecDepth 100000 in
theorem hallNone_fact2 : (mapsRowed Tryz.prog) = true := by kernel_rfl
set_option maxRecDepth 100000 in
theorem hallNone_fact3 : (Tryz.f3.params.all (Tryz.prog.readableRec ·)) = true := by kernel_rfl
set_option maxRecDepth 100000 in
theorem hallNone_fact4 : (namedTie Tryz.prog Rows.hallNoneRow.named Rows.hallNoneSpec.vars) = true := by kernel_rfl
set_option maxRecDepth 100000 in
theorem hallNone_fact5 : ((Rows.hallNoneRow.stops == [])) = true := by kernel_rfl
set_option maxRecDepth 100000 in
theorem hallNone_fact6 : ((Tryz.prog.stops == [])) = true := by kernel_rfl
set_option maxRecDepth 100000 in
theorem hallNone_fact7 : ((Rows.hallNoneRow.knobs == [])) = true := by kernel_rfl
set_option maxRecDepth 100000 in
theorem hallNone_fact8 : ((Tryz.prog.stopKnobs == [])) = true := by kernel_rfl
set_option maxRecDepth 100000 in
theorem hallNone_fact9 : ((Rows.hallNoneRow.inPlace == Tryz.prog.inPlace 3)) = true := by kernel_rfl
set_option maxRecDepth 100000 in
theorem hallNone_fact10 : ((Rows.hallNoneRow.unfollowed == Tryz.prog.unfollowed 3)) = true := by kernel_rfl
set_option maxRecDepth 100000 in
theorem hallNone_fact11 : ((Rows.hallNoneRow.recurses == Tryz.prog.recurses 3)) = true := by kernel_rfl
set_option maxRecDepth 100000 in
theorem hallNone_fact12 : ((Rows.hallNoneRow.named == Tryz.prog.varsNamed 3)) = true := by kernel_rfl
set_option maxRecDepth 100000 in
theorem hallNone_fact13 : ((Rows.hallNoneRow.maps == (Tryz.f3.params.toList ++ Rows.hallNoneSpec.plain.varTypes Tryz.prog).any (Tryz.prog.mapsRec ·))) = true := by kernel_rfl
set_option maxRecDepth 100000 in
theorem hallNone_fact14 : ((Rows.hallNoneRow.ifaces == (Tryz.f3.params.toList ++ Rows.hallNoneSpec.plain.varTypes Tryz.prog).any (Tryz.prog.ifacesRec ·))) = true := by kernel_rfl
set_option maxRecDepth 100000 in
theorem hallNone_fact15 : ((Rows.hallNoneRow.mapsOut == Tryz.prog.mapsAmong Tryz.f3.resultTypes.toList)) = true := by kernel_rfl
set_option maxRecDepth 100000 in
theorem hallNone_fact16 : ((Rows.hallNoneRow.loops == (Tryz.f3.params.toList ++ Rows.hallNoneSpec.plain.varTypes Tryz.prog).any (Tryz.prog.loopsFrom ·))) = true := by kernel_rfl
set_option maxRecDepth 100000 in
theorem hallNone_fact17 : ((Rows.hallNoneRow.wideKeys == (Tryz.f3.params.toList ++ Rows.hallNoneSpec.plain.varTypes Tryz.prog ++ Tryz.f3.resultTypes.toList).any (Tryz.prog.wideKeysFrom ·))) = true := by kernel_rfl
set_option maxRecDepth 100000 in
theorem hallNone_fact18 : (Rows.hallNoneSpec.vars.all (Tryz.prog.varReadable ·)) = true := by kernel_rfl
set_option maxRecDepth 100000 in
theorem hallNone_fact19 : (Tryz.f3.resultTypes.all (fun t => Tryz.prog.readableRec t && decide (t < Tryz.prog.types.size))) = true := by kernel_rfl
set_option maxRecDepth 100000 in
theorem hallNone_fact20 : ((Rows.hallNoneRow.ifacesOut == Tryz.f3.resultTypes.toList.any (Tryz.prog.ifacesRec ·))) = true := by kernel_rfl
set_option maxRecDepth 100000 in
theorem hallNone_fact21 : ((Rows.hallNoneRow.loopsOut == Tryz.f3.resultTypes.toList.any (Tryz.prog.loopsFrom ·))) = true := by kernel_rfl
set_option maxRecDepth 100000 in
theorem hallNone_fact22 : ((Rows.hallNoneRow.plainKeys == Tryz.prog.plainKeys)) = true := by kernel_rfl
set_option maxRecDepth 100000 in
theorem hallNone_fact23 : (Rows.hallNoneRow.shortTexts.isNone) = true := by kernel_rfl
set_option maxRecDepth 100000 in
theorem hallNone_fact24 : (Tryz.prog.stopsHeard) = true := by kernel_rfl
set_option maxRecDepth 100000 in
theorem hallNone_fact25 : (Tryz.prog.mayEnter) = true := by kernel_rfl
set_option maxRecDepth 100000 in
theorem hallNone_fact26 : ((Rows.hallNoneRow.lifted == Tryz.prog.liftsFinal)) = true := by kernel_rfl
set_option maxRecDepth 100000 in
theorem hallNone_fact27 : ((Tryz.prog.make == some Rows.hallNoneRow.make)) = true := by kernel_rfl
set_option maxRecDepth 100000 in
theorem hallNone_fact28 : ((Rows.hallNoneRow.kinds == (if Rows.hallNoneRow.domain.isEmpty then [] else Tryz.f3.params.toList.map fun t => match Tryz.prog.underlying t with | some (.int k) => some k | _ => none))) = true := by kernel_rfl
set_option maxRecDepth 100000 in
theorem hallNone_fact29 : ((Rows.hallNoneRow.pinned == Rows.hallNoneRow.pinnedBy)) = true := by kernel_rfl
set_option maxRecDepth 100000 in
theorem hallNone_fact30 : ((Rows.hallNoneRow.veiled == (Tryz.f3.params.toList ++ Rows.hallNoneSpec.plain.varTypes Tryz.prog ++ Tryz.f3.resultTypes.toList).any (Tryz.prog.veiledRec ·))) = true := by kernel_rfl
set_option maxRecDepth 100000 in
theorem hallNone_fact31 : (Rows.hallNoneRow.veiledFits Tryz.prog Tryz.f3.params.toList (Tryz.f3.params.toList ++ Rows.hallNoneSpec.plain.varTypes Tryz.prog ++ Tryz.f3.resultTypes.toList)) = true := by kernel_rfl
set_option maxRecDepth 100000 in
theorem hallNone_facts : joinedFacts Tryz.prog 3 Tryz.f3 Rows.hallNoneSpec Rows.hallNoneRow = true := by
  unfold joinedFacts
  simp only [Bool.and_eq_true]
  exact ⟨⟨⟨⟨⟨⟨⟨⟨⟨⟨⟨⟨⟨⟨⟨⟨⟨⟨⟨⟨⟨⟨⟨⟨⟨⟨⟨⟨⟨⟨⟨hallNone_fact0, hallNone_fact1⟩, hallNone_fact2⟩, hallNone_fact3⟩, hallNone_fact4⟩, hallNone_fact5⟩, hallNone_fact6⟩, hallNone_fact7⟩, hallNone_fact8⟩, hallNone_fact9⟩, hallNone_fact10⟩, hallNone_fact11⟩, hallNone_fact12⟩, hallNone_fact13⟩, hallNone_fact14⟩, hallNone_fact15⟩, hallNone_fact16⟩, hallNone_fact17⟩, hallNone_fact18⟩, hallNone_fact19⟩, hallNone_fact20⟩, hallNone_fact21⟩, hallNone_fact22⟩, hallNone_fact23⟩, hallNone_fact24⟩, hallNone_fact25⟩, hallNone_fact26⟩, hallNone_fact27⟩, hallNone_fact28⟩, hallNone_fact29⟩, hallNone_fact30⟩, hallNone_fact31⟩
end Go.Proofs.YtdgadbbjnhnkeaaGreatDoor