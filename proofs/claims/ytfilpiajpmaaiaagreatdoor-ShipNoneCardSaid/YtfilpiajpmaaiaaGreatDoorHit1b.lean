/- Parts of a closed fact. -/
import Derived.Test.YtfilpiajpmaaiaaGreatDoorHitD
set_option linter.unusedVariables false
set_option linter.unusedSimpArgs false
set_option linter.unnecessarySimpa false
namespace Go.Proofs.YtfilpiajpmaaiaaGreatDoor
open Go.ChangeShapes Go.WideShapes Go.ChangeAt Go.RowKit Go.Ai
set_option maxRecDepth 100000 in
theorem e4_ok : EntOk Tryz.prog 3 e4 := ent_ok Tryz3.cfgOk (tbl := []) (ents_nil) 3000 (wf_stL (by kernel_rfl)) (wf_stL (by kernel_rfl)) (by kernel_rfl)
set_option maxRecDepth 100000 in
theorem e5_ok : EntOk Tryz.prog 3 e5 := ent_ok Tryz3.cfgOk (tbl := []) (ents_nil) 3000 (wf_stL (by kernel_rfl)) (wf_stL (by kernel_rfl)) (by kernel_rfl)
set_option maxRecDepth 100000 in
theorem e6_ok : EntOk Tryz.prog 3 e6 := ent_ok Tryz3.cfgOk (tbl := []) (ents_nil) 3000 (wf_stL (by kernel_rfl)) (wf_stL (by kernel_rfl)) (by kernel_rfl)
end Go.Proofs.YtfilpiajpmaaiaaGreatDoor