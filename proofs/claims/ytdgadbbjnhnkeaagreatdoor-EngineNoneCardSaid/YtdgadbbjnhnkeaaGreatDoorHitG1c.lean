/- Parts of a closed fact. -/
import Derived.Test.YtdgadbbjnhnkeaaGreatDoorHitG
set_option linter.unusedVariables false
set_option linter.unusedSimpArgs false
set_option linter.unnecessarySimpa false
namespace Go.Proofs.YtdgadbbjnhnkeaaGreatDoor
open Go.ChangeShapes Go.WideShapes Go.ChangeAt Go.RowKit Go.Ai
set_option maxRecDepth 100000 in
theorem ge3_ok : EntOk Tryz.prog 3 ge3 := ent_ok Tryz3.cfgOk (tbl := []) (ents_nil) 3000 gs3_wf gr3_wf (by kernel_rfl)
set_option maxRecDepth 100000 in
theorem ge9_ok : EntOk Tryz.prog 3 ge9 := ent_ok Tryz3.cfgOk (tbl := []) (ents_nil) 3000 gs9_wf gr9_wf (by kernel_rfl)
set_option maxRecDepth 100000 in
theorem ge14_ok : EntOk Tryz.prog 3 ge14 := ent_ok Tryz3.cfgOk (tbl := []) (ents_nil) 3000 gs14_wf gr14_wf (by kernel_rfl)
set_option maxRecDepth 100000 in
theorem ge22_ok : EntOk Tryz.prog 3 ge22 := ent_ok Tryz3.cfgOk (tbl := []) (ents_nil) 3000 gs22_wf gr22_wf (by kernel_rfl)
set_option maxRecDepth 100000 in
theorem ge28_ok : EntOk Tryz.prog 3 ge28 := ent_ok Tryz3.cfgOk (tbl := []) (ents_nil) 3000 gs28_wf gr28_wf (by kernel_rfl)
set_option maxRecDepth 100000 in
theorem ge35_ok : EntOk Tryz.prog 3 ge35 := ent_ok Tryz3.cfgOk (tbl := []) (ents_nil) 3000 gs35_wf gr35_wf (by kernel_rfl)
set_option maxRecDepth 100000 in
theorem ge40_ok : EntOk Tryz.prog 3 ge40 := ent_ok Tryz3.cfgOk (tbl := []) (ents_nil) 3000 gs40_wf gr40_wf (by kernel_rfl)
set_option maxRecDepth 100000 in
theorem ge48_ok : EntOk Tryz.prog 3 ge48 := ent_ok Tryz3.cfgOk (tbl := []) (ents_nil) 3000 gs48_wf gr48_wf (by kernel_rfl)
set_option maxRecDepth 100000 in
theorem ge55_ok : EntOk Tryz.prog 3 ge55 := ent_ok Tryz3.cfgOk (tbl := []) (ents_nil) 3000 gs55_wf gr55_wf (by kernel_rfl)
end Go.Proofs.YtdgadbbjnhnkeaaGreatDoor