/- Parts of a closed fact. -/
import Derived.Test.YtdgadbbjnhnkeaaGreatDoorHitG
set_option linter.unusedVariables false
set_option linter.unusedSimpArgs false
set_option linter.unnecessarySimpa false
namespace Go.Proofs.YtdgadbbjnhnkeaaGreatDoor
open Go.ChangeShapes Go.WideShapes Go.ChangeAt Go.RowKit Go.Ai
set_option maxRecDepth 100000 in
theorem ge4_ok : EntOk Tryz.prog 3 ge4 := ent_ok Tryz3.cfgOk (tbl := []) (ents_nil) 3000 gs4_wf gr4_wf (by kernel_rfl)
set_option maxRecDepth 100000 in
theorem ge10_ok : EntOk Tryz.prog 3 ge10 := ent_ok Tryz3.cfgOk (tbl := []) (ents_nil) 3000 gs10_wf gr10_wf (by kernel_rfl)
set_option maxRecDepth 100000 in
theorem ge16_ok : EntOk Tryz.prog 3 ge16 := ent_ok Tryz3.cfgOk (tbl := []) (ents_nil) 3000 gs16_wf gr16_wf (by kernel_rfl)
set_option maxRecDepth 100000 in
theorem ge23_ok : EntOk Tryz.prog 3 ge23 := ent_ok Tryz3.cfgOk (tbl := []) (ents_nil) 3000 gs23_wf gr23_wf (by kernel_rfl)
set_option maxRecDepth 100000 in
theorem ge31_ok : EntOk Tryz.prog 3 ge31 := ent_ok Tryz3.cfgOk (tbl := []) (ents_nil) 3000 gs31_wf gr31_wf (by kernel_rfl)
set_option maxRecDepth 100000 in
theorem ge36_ok : EntOk Tryz.prog 3 ge36 := ent_ok Tryz3.cfgOk (tbl := []) (ents_nil) 3000 gs36_wf gr36_wf (by kernel_rfl)
set_option maxRecDepth 100000 in
theorem ge42_ok : EntOk Tryz.prog 3 ge42 := ent_ok Tryz3.cfgOk (tbl := []) (ents_nil) 3000 gs42_wf gr42_wf (by kernel_rfl)
set_option maxRecDepth 100000 in
theorem ge49_ok : EntOk Tryz.prog 3 ge49 := ent_ok Tryz3.cfgOk (tbl := []) (ents_nil) 3000 gs49_wf gr49_wf (by kernel_rfl)
end Go.Proofs.YtdgadbbjnhnkeaaGreatDoor