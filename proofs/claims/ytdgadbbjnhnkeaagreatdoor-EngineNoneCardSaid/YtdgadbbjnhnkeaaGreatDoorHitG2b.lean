/- Parts of a closed fact. -/
import Derived.Test.YtdgadbbjnhnkeaaGreatDoorHitG
import Derived.Test.YtdgadbbjnhnkeaaGreatDoorHitG1a
import Derived.Test.YtdgadbbjnhnkeaaGreatDoorHitG1b
import Derived.Test.YtdgadbbjnhnkeaaGreatDoorHitG1c
import Derived.Test.YtdgadbbjnhnkeaaGreatDoorHitG1d
set_option linter.unusedVariables false
set_option linter.unusedSimpArgs false
set_option linter.unnecessarySimpa false
namespace Go.Proofs.YtdgadbbjnhnkeaaGreatDoor
open Go.ChangeShapes Go.WideShapes Go.ChangeAt Go.RowKit Go.Ai
set_option maxRecDepth 100000 in
theorem ge8_ok : EntOk Tryz.prog 3 ge8 := ent_ok Tryz3.cfgOk (tbl := [ge6, ge7]) (ents_cons ge6_ok (ents_cons ge7_ok ents_nil)) 3000 gs8_wf gr8_wf (by kernel_rfl)
set_option maxRecDepth 100000 in
theorem ge15_ok : EntOk Tryz.prog 3 ge15 := ent_ok Tryz3.cfgOk (tbl := [ge14]) (ents_cons ge14_ok ents_nil) 3000 gs15_wf gr15_wf (by kernel_rfl)
set_option maxRecDepth 100000 in
theorem ge33_ok : EntOk Tryz.prog 3 ge33 := ent_ok Tryz3.cfgOk (tbl := [ge31, ge32]) (ents_cons ge31_ok (ents_cons ge32_ok ents_nil)) 3000 gs33_wf gr33_wf (by kernel_rfl)
set_option maxRecDepth 100000 in
theorem ge41_ok : EntOk Tryz.prog 3 ge41 := ent_ok Tryz3.cfgOk (tbl := [ge39, ge40]) (ents_cons ge39_ok (ents_cons ge40_ok ents_nil)) 3000 gs41_wf gr41_wf (by kernel_rfl)
set_option maxRecDepth 100000 in
theorem ge50_ok : EntOk Tryz.prog 3 ge50 := ent_ok Tryz3.cfgOk (tbl := [ge49]) (ents_cons ge49_ok ents_nil) 3000 gs50_wf gr50_wf (by kernel_rfl)
end Go.Proofs.YtdgadbbjnhnkeaaGreatDoor