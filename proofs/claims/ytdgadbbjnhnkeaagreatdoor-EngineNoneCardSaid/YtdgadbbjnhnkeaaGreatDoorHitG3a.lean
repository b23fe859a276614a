/- Parts of a closed fact. -/
import Derived.Test.YtdgadbbjnhnkeaaGreatDoorHitG
import Derived.Test.YtdgadbbjnhnkeaaGreatDoorHitG1a
import Derived.Test.YtdgadbbjnhnkeaaGreatDoorHitG1b
import Derived.Test.YtdgadbbjnhnkeaaGreatDoorHitG1c
import Derived.Test.YtdgadbbjnhnkeaaGreatDoorHitG1d
import Derived.Test.YtdgadbbjnhnkeaaGreatDoorHitG2a
import Derived.Test.YtdgadbbjnhnkeaaGreatDoorHitG2b
set_option linter.unusedVariables false
set_option linter.unusedSimpArgs false
set_option linter.unnecessarySimpa false
namespace Go.Proofs.YtdgadbbjnhnkeaaGreatDoor
open Go.ChangeShapes Go.WideShapes Go.ChangeAt Go.RowKit Go.Ai
set_option maxRecDepth 100000 in
theorem ge5_ok : EntOk Tryz.prog 3 ge5 := ent_ok Tryz3.cfgOk (tbl := [ge2, ge3, ge4]) (ents_cons ge2_ok (ents_cons ge3_ok (ents_cons ge4_ok ents_nil))) 3000 gs5_wf gr5_wf (by kernel_rfl)
set_option maxRecDepth 100000 in
theorem ge17_ok : EntOk Tryz.prog 3 ge17 := ent_ok Tryz3.cfgOk (tbl := [ge12, ge13, ge15, ge16]) (ents_cons ge12_ok (ents_cons ge13_ok (ents_cons ge15_ok (ents_cons ge16_ok ents_nil)))) 3000 gs17_wf gr17_wf (by kernel_rfl)
set_option maxRecDepth 100000 in
theorem ge30_ok : EntOk Tryz.prog 3 ge30 := ent_ok Tryz3.cfgOk (tbl := [ge26, ge27, ge29]) (ents_cons ge26_ok (ents_cons ge27_ok (ents_cons ge29_ok ents_nil))) 3000 gs30_wf gr30_wf (by kernel_rfl)
set_option maxRecDepth 100000 in
theorem ge45_ok : EntOk Tryz.prog 3 ge45 := ent_ok Tryz3.cfgOk (tbl := [ge38, ge41, ge43, ge44]) (ents_cons ge38_ok (ents_cons ge41_ok (ents_cons ge43_ok (ents_cons ge44_ok ents_nil)))) 3000 gs45_wf gr45_wf (by kernel_rfl)
set_option maxRecDepth 100000 in
theorem ge52_ok : EntOk Tryz.prog 3 ge52 := ent_ok Tryz3.cfgOk (tbl := [ge48, ge50, ge51]) (ents_cons ge48_ok (ents_cons ge50_ok (ents_cons ge51_ok ents_nil))) 3000 gs52_wf gr52_wf (by kernel_rfl)
end Go.Proofs.YtdgadbbjnhnkeaaGreatDoor