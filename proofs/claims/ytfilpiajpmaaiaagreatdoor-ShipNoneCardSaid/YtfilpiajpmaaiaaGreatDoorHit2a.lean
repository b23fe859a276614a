/- Parts of a closed fact. -/
import Derived.Test.YtfilpiajpmaaiaaGreatDoorHitD
import Derived.Test.YtfilpiajpmaaiaaGreatDoorHit1a
import Derived.Test.YtfilpiajpmaaiaaGreatDoorHit1b
set_option linter.unusedVariables false
set_option linter.unusedSimpArgs false
set_option linter.unnecessarySimpa false
namespace Go.Proofs.YtfilpiajpmaaiaaGreatDoor
open Go.ChangeShapes Go.WideShapes Go.ChangeAt Go.RowKit Go.Ai
set_option maxRecDepth 100000 in
theorem e2_ok : EntOk Tryz.prog 3 e2 := ent_ok Tryz3.cfgOk (tbl := [e1]) (ents_cons e1_ok ents_nil) 3000 (wf_stL (by kernel_rfl)) (wf_stL (by kernel_rfl)) (by kernel_rfl)
set_option maxRecDepth 100000 in
theorem e7_ok : EntOk Tryz.prog 3 e7 := ent_ok Tryz3.cfgOk (tbl := [e6]) (ents_cons e6_ok ents_nil) 3000 (wf_stL (by kernel_rfl)) (wf_stL (by kernel_rfl)) (by kernel_rfl)
end Go.Proofs.YtfilpiajpmaaiaaGreatDoor