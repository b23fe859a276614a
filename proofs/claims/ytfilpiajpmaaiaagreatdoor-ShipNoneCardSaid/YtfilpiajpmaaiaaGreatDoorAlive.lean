/- The closed fact. -/
import Derived.Test.YtfilpiajpmaaiaaGreatDoorHit1a
import Derived.Test.YtfilpiajpmaaiaaGreatDoorHit1b
import Derived.Test.YtfilpiajpmaaiaaGreatDoorHit2a
set_option linter.unusedVariables false
set_option linter.unusedSimpArgs false
set_option linter.unnecessarySimpa false
namespace Go.Proofs.YtfilpiajpmaaiaaGreatDoor
open Go.ChangeShapes Go.WideShapes Go.ChangeAt Go.RowKit Go.Ai
set_option maxRecDepth 100000 in
theorem alive_run : allTrueG 9000 458 (istep Tryz3.cfg (runH Tryz3.cfg [e0, e1, e2, e3, e4, e5, e6, e7] 3000) (.call 4 []) (glob3 458)) = true := by kernel_rfl
noncomputable def con_alive : Con Tryz.prog 3 := Con.closed3 Tryz3.cfgOk (ents_cons e0_ok (ents_cons e1_ok (ents_cons e2_ok (ents_cons e3_ok (ents_cons e4_ok (ents_cons e5_ok (ents_cons e6_ok (ents_cons e7_ok ents_nil)))))))) 3000 9000 458 4 alive_run
end Go.Proofs.YtfilpiajpmaaiaaGreatDoor