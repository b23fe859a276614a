/- Parts of a closed fact. -/
import Derived.Test.YtdgadbbjnhnkeaaGreatDoorHitG
import Derived.Test.YtdgadbbjnhnkeaaGreatDoorHitG1a
import Derived.Test.YtdgadbbjnhnkeaaGreatDoorHitG1b
import Derived.Test.YtdgadbbjnhnkeaaGreatDoorHitG1c
import Derived.Test.YtdgadbbjnhnkeaaGreatDoorHitG1d
import Derived.Test.YtdgadbbjnhnkeaaGreatDoorHitG2a
import Derived.Test.YtdgadbbjnhnkeaaGreatDoorHitG2b
import Derived.Test.YtdgadbbjnhnkeaaGreatDoorHitG3a
set_option linter.unusedVariables false
set_option linter.unusedSimpArgs false
set_option linter.unnecessarySimpa false
namespace Go.Proofs.YtdgadbbjnhnkeaaGreatDoor
open Go.ChangeShapes Go.WideShapes Go.ChangeAt Go.RowKit Go.Ai
set_option maxRecDepth 100000 in
theorem ge18_ok : EntOk Tryz.prog 3 ge18 := ent_ok Tryz3.cfgOk (tbl := [ge9, ge10, ge17]) (ents_cons ge9_ok (ents_cons ge10_ok (ents_cons ge17_ok ents_nil))) 3000 gs18_wf gr18_wf (by kernel_rfl)
set_option maxRecDepth 100000 in
theorem ge46_ok : EntOk Tryz.prog 3 ge46 := ent_ok Tryz3.cfgOk (tbl := [ge34, ge35, ge45]) (ents_cons ge34_ok (ents_cons ge35_ok (ents_cons ge45_ok ents_nil))) 3000 gs46_wf gr46_wf (by kernel_rfl)
end Go.Proofs.YtdgadbbjnhnkeaaGreatDoor