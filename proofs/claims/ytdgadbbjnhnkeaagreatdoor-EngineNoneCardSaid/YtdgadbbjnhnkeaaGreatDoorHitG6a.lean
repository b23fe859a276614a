/- Parts of a closed fact. -/
import Derived.Test.YtdgadbbjnhnkeaaGreatDoorHitG
import Derived.Test.YtdgadbbjnhnkeaaGreatDoorHitG1a
import Derived.Test.YtdgadbbjnhnkeaaGreatDoorHitG1b
import Derived.Test.YtdgadbbjnhnkeaaGreatDoorHitG1c
import Derived.Test.YtdgadbbjnhnkeaaGreatDoorHitG1d
import Derived.Test.YtdgadbbjnhnkeaaGreatDoorHitG2a
import Derived.Test.YtdgadbbjnhnkeaaGreatDoorHitG2b
import Derived.Test.YtdgadbbjnhnkeaaGreatDoorHitG3a
import Derived.Test.YtdgadbbjnhnkeaaGreatDoorHitG4a
import Derived.Test.YtdgadbbjnhnkeaaGreatDoorHitG5a
set_option linter.unusedVariables false
set_option linter.unusedSimpArgs false
set_option linter.unnecessarySimpa false
namespace Go.Proofs.YtdgadbbjnhnkeaaGreatDoor
open Go.ChangeShapes Go.WideShapes Go.ChangeAt Go.RowKit Go.Ai
set_option maxRecDepth 100000 in
theorem ge24_ok : EntOk Tryz.prog 3 ge24 := ent_ok Tryz3.cfgOk (tbl := [ge8, ge21, ge22, ge23]) (ents_cons ge8_ok (ents_cons ge21_ok (ents_cons ge22_ok (ents_cons ge23_ok ents_nil)))) 3000 gs24_wf gr24_wf (by kernel_rfl)
set_option maxRecDepth 100000 in
theorem ge56_ok : EntOk Tryz.prog 3 ge56 := ent_ok Tryz3.cfgOk (tbl := [ge33, ge53, ge54, ge55]) (ents_cons ge33_ok (ents_cons ge53_ok (ents_cons ge54_ok (ents_cons ge55_ok ents_nil)))) 3000 gs56_wf gr56_wf (by kernel_rfl)
end Go.Proofs.YtdgadbbjnhnkeaaGreatDoor