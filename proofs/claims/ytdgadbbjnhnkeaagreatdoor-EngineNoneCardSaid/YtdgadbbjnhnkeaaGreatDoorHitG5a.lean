/- Parts of a closed fact. -/
import Derived.Test.YtdgadbbjnhnkeaaGreatDoorHitG
import Derived.Test.YtdgadbbjnhnkeaaGreatDoorHitG1a
import Derived.Test.YtdgadbbjnhnkeaaGreatDoorHitG1b
import Derived.Test.YtdgadbbjnhnkeaaGreatDoorHitG1c
import Derived.Test.YtdgadbbjnhnkeaaGreatDoorHitG1d
import Derived.Test.YtdgadbbjnhnkeaaGreatDoorHitG2a
import Derived.Test.YtdgadbbjnhnkeaaGreatDoorHitG2b
import Derived.Test.YtdgadbbjnhnkeaaGreatDoorHitG3a
import Derived.Test.YtdgadbbjnhnkeaaGreatDoorHitG4a
set_option linter.unusedVariables false
set_option linter.unusedSimpArgs false
set_option linter.unnecessarySimpa false
namespace Go.Proofs.YtdgadbbjnhnkeaaGreatDoor
open Go.ChangeShapes Go.WideShapes Go.ChangeAt Go.RowKit Go.Ai
set_option maxRecDepth 100000 in
theorem ge21_ok : EntOk Tryz.prog 3 ge21 := ent_ok Tryz3.cfgOk (tbl := [ge18, ge19, ge20]) (ents_cons ge18_ok (ents_cons ge19_ok (ents_cons ge20_ok ents_nil))) 3000 gs21_wf gr21_wf (by kernel_rfl)
set_option maxRecDepth 100000 in
theorem ge53_ok : EntOk Tryz.prog 3 ge53 := ent_ok Tryz3.cfgOk (tbl := [ge46, ge47, ge52]) (ents_cons ge46_ok (ents_cons ge47_ok (ents_cons ge52_ok ents_nil))) 3000 gs53_wf gr53_wf (by kernel_rfl)
end Go.Proofs.YtdgadbbjnhnkeaaGreatDoor