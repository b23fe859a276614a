/- Parts of a closed fact. -/
import Derived.Test.YtdgadbbjnhnkeaaGreatDoorHitG
import Derived.Test.YtdgadbbjnhnkeaaGreatDoorHitG1a
import Derived.Test.YtdgadbbjnhnkeaaGreatDoorHitG1b
import Derived.Test.YtdgadbbjnhnkeaaGreatDoorHitG1c
import Derived.Test.YtdgadbbjnhnkeaaGreatDoorHitG1d
set_option linter.unusedVariables false
set_option linter.unusedSimpArgs false
set_option linter.unnecessarySimpa false
namespace Go.Proofs.YtdgadbbjnhnkeaaGreatDoor
open Go.ChangeShapes Go.WideShapes Go.ChangeAt Go.RowKit Go.Ai
set_option maxRecDepth 100000 in
theorem ge2_ok : EntOk Tryz.prog 3 ge2 := ent_ok Tryz3.cfgOk (tbl := [ge0, ge1]) (ents_cons ge0_ok (ents_cons ge1_ok ents_nil)) 3000 gs2_wf gr2_wf (by kernel_rfl)
set_option maxRecDepth 100000 in
theorem ge12_ok : EntOk Tryz.prog 3 ge12 := ent_ok Tryz3.cfgOk (tbl := [ge11]) (ents_cons ge11_ok ents_nil) 3000 gs12_wf gr12_wf (by kernel_rfl)
set_option maxRecDepth 100000 in
theorem ge29_ok : EntOk Tryz.prog 3 ge29 := ent_ok Tryz3.cfgOk (tbl := [ge28]) (ents_cons ge28_ok ents_nil) 3000 gs29_wf gr29_wf (by kernel_rfl)
set_option maxRecDepth 100000 in
theorem ge38_ok : EntOk Tryz.prog 3 ge38 := ent_ok Tryz3.cfgOk (tbl := [ge36, ge37]) (ents_cons ge36_ok (ents_cons ge37_ok ents_nil)) 3000 gs38_wf gr38_wf (by kernel_rfl)
set_option maxRecDepth 100000 in
theorem ge43_ok : EntOk Tryz.prog 3 ge43 := ent_ok Tryz3.cfgOk (tbl := [ge42]) (ents_cons ge42_ok ents_nil) 3000 gs43_wf gr43_wf (by kernel_rfl)
end Go.Proofs.YtdgadbbjnhnkeaaGreatDoor