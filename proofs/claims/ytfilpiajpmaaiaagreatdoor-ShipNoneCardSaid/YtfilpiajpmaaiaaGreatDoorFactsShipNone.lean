/- The closed facts of shipNone's row, one by one. -/
import Derived.Test.YtfilpiajpmaaiaaGreatDoorRows
import Derived.ProofKit
set_option linter.unusedVariables false
set_option linter.unusedSimpArgs false
set_option linter.unnecessarySimpa false
namespace Go.Proofs.YtfilpiajpmaaiaaGreatDoor
open Go
set_option maxRecDepth 100000 in
theorem shipNone_fact0 : (Rows.shipNoneRow.wf (OpenSpec.ofChange Rows.shipNoneSpec)) = true := by kernel_rfl
set_option maxRecDepth 100000 in
theorem shipNone_fact1 : (laidOutB Tryz.prog) = true := by kernel_rfl
set_option maxRecDepth 100000 in
theorem shipNone_fact2 : (mapsRowed Tryz.prog) = true := by kernel_rfl
set_option maxRecDepth 100000 in
theorem shipNone_fact3 : (Tryz.f3.params.all (Tryz.prog.readableRec ·)) = true := by kernel_rfl
set_option maxRecDepth 100000 in
theorem shipNone_fact4 : (namedTie Tryz.prog Rows.shipNoneRow.named Rows.shipNoneSpec.vars) = true := by kernel_rfl
set_option maxRecDepth 100000 in
theorem shipNone_fact5 : ((Rows.shipNoneRow.stops == [])) = true := by kernel_rfl
set_option maxRecDepth 100000 in
theorem shipNone_fact6 : ((Tryz.prog.stops == [])) = true := by kernel_rfl
set_option maxRecDepth 100000 in
theorem shipNone_fact7 : ((Rows.shipNoneRow.knobs == [])) = true := by kernel_rfl
set_option maxRecDepth 100000 in
theorem shipNone_fact8 : ((Tryz.prog.stopKnobs == [])) = true := by kernel_rfl
set_option maxRecDepth 100000 in
theorem shipNone_fact9 : ((Rows.shipNoneRow.inPlace == Tryz.prog.inPlace 3)) = true := by kernel_rfl
set_option maxRecDepth 100000 in
theorem shipNone_fact10 : ((Rows.shipNoneRow.unfollowed == Tryz.prog.unfollowed 3)) = true := by kernel_rfl
set_option maxRecDepth 100000 in
theorem shipNone_fact11 : ((Rows.shipNoneRow.recurses == Tryz.prog.recurses 3)) = true := by kernel_rfl
set_option maxRecDepth 100000 in
theorem shipNone_fact12 : ((Rows.shipNoneRow.named == Tryz.prog.varsNamed 3)) = true := by kernel_rfl
set_option maxRecDepth 100000 in
theorem shipNone_fact13 : ((Rows.shipNoneRow.maps == (Tryz.f3.params.toList ++ Rows.shipNoneSpec.plain.varTypes Tryz.prog).any (Tryz.prog.mapsRec ·))) = true := by kernel_rfl
set_option maxRecDepth 100000 in
theorem shipNone_fact14 : ((Rows.shipNoneRow.ifaces == (Tryz.f3.params.toList ++ Rows.shipNoneSpec.plain.varTypes Tryz.prog).any (Tryz.prog.ifacesRec ·))) = true := by kernel_rfl
set_option maxRecDepth 100000 in
theorem shipNone_fact15 : ((Rows.shipNoneRow.mapsOut == Tryz.prog.mapsAmong Tryz.f3.resultTypes.toList)) = true := by kernel_rfl
set_option maxRecDepth 100000 in
theorem shipNone_fact16 : ((Rows.shipNoneRow.loops == (Tryz.f3.params.toList ++ Rows.shipNoneSpec.plain.varTypes Tryz.prog).any (Tryz.prog.loopsFrom ·))) = true := by kernel_rfl
set_option maxRecDepth 100000 in
theorem shipNone_fact17 : ((Rows.shipNoneRow.wideKeys == (Tryz.f3.params.toList ++ Rows.shipNoneSpec.plain.varTypes Tryz.prog ++ Tryz.f3.resultTypes.toList).any (Tryz.prog.wideKeysFrom ·))) = true := by kernel_rfl
set_option maxRecDepth 100000 in
theorem shipNone_fact18 : (Rows.shipNoneSpec.vars.all (Tryz.prog.varReadable ·)) = true := by kernel_rfl
set_option maxRecDepth 100000 in
theorem shipNone_fact19 : (Tryz.f3.resultTypes.all (fun t => Tryz.prog.readableRec t && decide (t < Tryz.prog.types.size))) = true := by kernel_rfl
set_option maxRecDepth 100000 in
theorem shipNone_fact20 : ((Rows.shipNoneRow.ifacesOut == Tryz.f3.resultTypes.toList.any (Tryz.prog.ifacesRec ·))) = true := by kernel_rfl
set_option maxRecDepth 100000 in
theorem shipNone_fact21 : ((Rows.shipNoneRow.loopsOut == Tryz.f3.resultTypes.toList.any (Tryz.prog.loopsFrom ·))) = true := by kernel_rfl
set_option maxRecDepth 100000 in
theorem shipNone_fact22 : ((Rows.shipNoneRow.plainKeys == Tryz.prog.plainKeys)) = true := by kernel_rfl
set_option maxRecDepth 100000 in
theorem shipNone_fact23 : (Rows.shipNoneRow.shortTexts.isNone) = true := by kernel_rfl
set_option maxRecDepth 100000 in
theorem shipNone_fact24 : (Tryz.prog.stopsHeard) = true := by kernel_rfl
set_option maxRecDepth 100000 in
theorem shipNone_fact25 : (Tryz.prog.mayEnter) = true := by kernel_rfl
set_option maxRecDepth 100000 in
theorem shipNone_fact26 : ((Rows.shipNoneRow.lifted == Tryz.prog.liftsFinal)) = true := by kernel_rfl
set_option maxRecDepth 100000 in
theorem shipNone_fact27 : ((Tryz.prog.make == some Rows.shipNoneRow.make)) = true := by kernel_rfl
set_option maxRecDepth 100000 in
theorem shipNone_fact28 : ((Rows.shipNoneRow.kinds == (if Rows.shipNoneRow.domain.isEmpty then [] else Tryz.f3.params.toList.map fun t => match Tryz.prog.underlying t with | some (.int k) => some k | _ => none))) = true := by kernel_rfl
set_option maxRecDepth 100000 in
theorem shipNone_fact29 : ((Rows.shipNoneRow.pinned == Rows.shipNoneRow.pinnedBy)) = true := by kernel_rfl
set_option maxRecDepth 100000 in
theorem shipNone_fact30 : ((Rows.shipNoneRow.veiled == (Tryz.f3.params.toList ++ Rows.shipNoneSpec.plain.varTypes Tryz.prog ++ Tryz.f3.resultTypes.toList).any (Tryz.prog.veiledRec ·))) = true := by kernel_rfl
set_option maxRecDepth 100000 in
theorem shipNone_fact31 : (Rows.shipNoneRow.veiledFits Tryz.prog Tryz.f3.params.toList (Tryz.f3.params.toList ++ Rows.shipNoneSpec.plain.varTypes Tryz.prog ++ Tryz.f3.resultTypes.toList)) = true := by kernel_rfl
set_option maxRecDepth 100000 in
theorem shipNone_facts : joinedFacts Tryz.prog 3 Tryz.f3 Rows.shipNoneSpec Rows.shipNoneRow = true := by
  unfold joinedFacts
  simp only [Bool.and_eq_true]
  exact ⟨⟨⟨⟨⟨⟨⟨⟨⟨⟨⟨⟨⟨⟨⟨⟨⟨⟨⟨⟨⟨⟨⟨⟨⟨⟨⟨⟨⟨⟨⟨shipNone_fact0, shipNone_fact1⟩, shipNone_fact2⟩, shipNone_fact3⟩, shipNone_fact4⟩, shipNone_fact5⟩, shipNone_fact6⟩, shipNone_fact7⟩, shipNone_fact8⟩, shipNone_fact9⟩, shipNone_fact10⟩, shipNone_fact11⟩, shipNone_fact12⟩, shipNone_fact13⟩, shipNone_fact14⟩, shipNone_fact15⟩, shipNone_fact16⟩, shipNone_fact17⟩, shipNone_fact18⟩, shipNone_fact19⟩, shipNone_fact20⟩, shipNone_fact21⟩, shipNone_fact22⟩, shipNone_fact23⟩, shipNone_fact24⟩, shipNone_fact25⟩, shipNone_fact26⟩, shipNone_fact27⟩, shipNone_fact28⟩, shipNone_fact29⟩, shipNone_fact30⟩, shipNone_fact31⟩
end Go.Proofs.YtfilpiajpmaaiaaGreatDoor