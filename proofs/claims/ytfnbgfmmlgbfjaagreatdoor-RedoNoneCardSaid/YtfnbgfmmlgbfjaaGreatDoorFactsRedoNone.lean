/- The closed facts of redoNone's row, one by one. -/
import Derived.Test.YtfnbgfmmlgbfjaaGreatDoorRows
import Derived.ProofKit
namespace Go.Proofs.YtfnbgfmmlgbfjaaGreatDoor
open Go
set_option maxRecDepth 100000 in
theorem redoNone_fact0 : (Rows.redoNoneRow.wf (OpenSpec.ofChange Rows.redoNoneSpec)) = true := by kernel_rfl
set_option maxRecDepth 100000 in
theorem redoNone_fact1 : (laidOutB Tryz.prog) = true := by kernel_rfl
set_option maxRecDepth 100000 in
theorem redoNone_fact2 : (mapsRowed Tryz.prog) = true := by kernel_rfl
set_option maxRecDepth 100000 in
theorem redoNone_fact3 : (Tryz.f3.params.all (Tryz.prog.readableRec ·)) = true := by kernel_rfl
set_option maxRecDepth 100000 in
theorem redoNone_fact4 : (namedTie Tryz.prog Rows.redoNoneRow.named Rows.redoNoneSpec.vars) = true := by kernel_rfl
set_option maxRecDepth 100000 in
theorem redoNone_fact5 : ((Rows.redoNoneRow.stops == [])) = true := by kernel_rfl
set_option maxRecDepth 100000 in
theorem redoNone_fact6 : ((Tryz.prog.stops == [])) = true := by kernel_rfl
set_option maxRecDepth 100000 in
theorem redoNone_fact7 : ((Rows.redoNoneRow.knobs == [])) = true := by kernel_rfl
set_option maxRecDepth 100000 in
theorem redoNone_fact8 : ((Tryz.prog.stopKnobs == [])) = true := by kernel_rfl
set_option maxRecDepth 100000 in
theorem redoNone_fact9 : ((Rows.redoNoneRow.inPlace == Tryz.prog.inPlace 3)) = true := by kernel_rfl
set_option maxRecDepth 100000 in
theorem redoNone_fact10 : ((Rows.redoNoneRow.unfollowed == Tryz.prog.unfollowed 3)) = true := by kernel_rfl
set_option maxRecDepth 100000 in
theorem redoNone_fact11 : ((Rows.redoNoneRow.recurses == Tryz.prog.recurses 3)) = true := by kernel_rfl
set_option maxRecDepth 100000 in
theorem redoNone_fact12 : ((Rows.redoNoneRow.named == Tryz.prog.varsNamed 3)) = true := by kernel_rfl
set_option maxRecDepth 100000 in
theorem redoNone_fact13 : ((Rows.redoNoneRow.maps == (Tryz.f3.params.toList ++ Rows.redoNoneSpec.plain.varTypes Tryz.prog).any (Tryz.prog.mapsRec ·))) = true := by kernel_rfl
set_option maxRecDepth 100000 in
theorem redoNone_fact14 : ((Rows.redoNoneRow.ifaces == (Tryz.f3.params.toList ++ Rows.redoNoneSpec.plain.varTypes Tryz.prog).any (Tryz.prog.ifacesRec ·))) = true := by kernel_rfl
set_option maxRecDepth 100000 in
theorem redoNone_fact15 : ((Rows.redoNoneRow.mapsOut == Tryz.prog.mapsAmong Tryz.f3.resultTypes.toList)) = true := by kernel_rfl
set_option maxRecDepth 100000 in
theorem redoNone_fact16 : ((Rows.redoNoneRow.loops == (Tryz.f3.params.toList ++ Rows.redoNoneSpec.plain.varTypes Tryz.prog).any (Tryz.prog.loopsFrom ·))) = true := by kernel_rfl
set_option maxRecDepth 100000 in
theorem redoNone_fact17 : ((Rows.redoNoneRow.wideKeys == (Tryz.f3.params.toList ++ Rows.redoNoneSpec.plain.varTypes Tryz.prog ++ Tryz.f3.resultTypes.toList).any (Tryz.prog.wideKeysFrom ·))) = true := by kernel_rfl
set_option maxRecDepth 100000 in
theorem redoNone_fact18 : (Rows.redoNoneSpec.vars.all (Tryz.prog.varReadable ·)) = true := by kernel_rfl
set_option maxRecDepth 100000 in
theorem redoNone_fact19 : (Tryz.f3.resultTypes.all (fun t => Tryz.prog.readableRec t && decide (t < Tryz.prog.types.size))) = true := by kernel_rfl
set_option maxRecDepth 100000 in
theorem redoNone_fact20 : ((Rows.redoNoneRow.ifacesOut == Tryz.f3.resultTypes.toList.any (Tryz.prog.ifacesRec ·))) = true := by kernel_rfl
set_option maxRecDepth 100000 in
theorem redoNone_fact21 : ((Rows.redoNoneRow.loopsOut == Tryz.f3.resultTypes.toList.any (Tryz.prog.loopsFrom ·))) = true := by kernel_rfl
set_option maxRecDepth 100000 in
theorem redoNone_fact22 : ((Rows.redoNoneRow.plainKeys == Tryz.prog.plainKeys)) = true := by kernel_rfl
set_option maxRecDepth 100000 in
theorem redoNone_fact23 : (Rows.redoNoneRow.shortTexts.isNone) = true := by kernel_rfl
set_option maxRecDepth 100000 in
theorem redoNone_fact24 : (Tryz.prog.stopsHeard) = true := by kernel_rfl
set_option maxRecDepth 100000 in
theorem redoNone_fact25 : (Tryz.prog.mayEnter) = true := by kernel_rfl
set_option maxRecDepth 100000 in
theorem redoNone_fact26 : ((Rows.redoNoneRow.lifted == Tryz.prog.liftsFinal)) = true := by kernel_rfl
set_option maxRecDepth 100000 in
theorem redoNone_fact27 : ((Tryz.prog.make == some Rows.redoNoneRow.make)) = true := by kernel_rfl
set_option maxRecDepth 100000 in
theorem redoNone_fact28 : ((Rows.redoNoneRow.kinds == (if Rows.redoNoneRow.domain.isEmpty then [] else Tryz.f3.params.toList.map fun t => match Tryz.prog.underlying t with | some (.int k) => some k | _ => none))) = true := by kernel_rfl
set_option maxRecDepth 100000 in
theorem redoNone_fact29 : ((Rows.redoNoneRow.pinned == Rows.redoNoneRow.pinnedBy)) = true := by kernel_rfl
set_option maxRecDepth 100000 in
theorem redoNone_fact30 : ((Rows.redoNoneRow.veiled == (Tryz.f3.params.toList ++ Rows.redoNoneSpec.plain.varTypes Tryz.prog ++ Tryz.f3.resultTypes.toList).any (Tryz.prog.veiledRec ·))) = true := by kernel_rfl
set_option maxRecDepth 100000 in
theorem redoNone_fact31 : (Rows.redoNoneRow.veiledFits Tryz.prog Tryz.f3.params.toList (Tryz.f3.params.toList ++ Rows.redoNoneSpec.plain.varTypes Tryz.prog ++ Tryz.f3.resultTypes.toList)) = true := by kernel_rfl
set_option maxRecDepth 100000 in
theorem redoNone_facts : joinedFacts Tryz.prog 3 Tryz.f3 Rows.redoNoneSpec Rows.redoNoneRow = true := by
  unfold joinedFacts
  simp only [Bool.and_eq_true]
  exact ⟨⟨⟨⟨⟨⟨⟨⟨⟨⟨⟨⟨⟨⟨⟨⟨⟨⟨⟨⟨⟨⟨⟨⟨⟨⟨⟨⟨⟨⟨⟨redoNone_fact0, redoNone_fact1⟩, redoNone_fact2⟩, redoNone_fact3⟩, redoNone_fact4⟩, redoNone_fact5⟩, redoNone_fact6⟩, redoNone_fact7⟩, redoNone_fact8⟩, redoNone_fact9⟩, redoNone_fact10⟩, redoNone_fact11⟩, redoNone_fact12⟩, redoNone_fact13⟩, redoNone_fact14⟩, redoNone_fact15⟩, redoNone_fact16⟩, redoNone_fact17⟩, redoNone_fact18⟩, redoNone_fact19⟩, redoNone_fact20⟩, redoNone_fact21⟩, redoNone_fact22⟩, redoNone_fact23⟩, redoNone_fact24⟩, redoNone_fact25⟩, redoNone_fact26⟩, redoNone_fact27⟩, redoNone_fact28⟩, redoNone_fact29⟩, redoNone_fact30⟩, redoNone_fact31⟩
end Go.Proofs.YtfnbgfmmlgbfjaaGreatDoor
