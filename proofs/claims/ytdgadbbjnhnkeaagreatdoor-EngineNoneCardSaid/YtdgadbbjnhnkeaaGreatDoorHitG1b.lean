/- Parts of a closed fact. -/
import Derived.Test.YtdgadbbjnhnkeaaGreatDoorHitG
set_option linter.unusedVariables false
set_option linter.unusedSimpArgs false
set_option linter.unnecessarySimpa false
namespace Go.Proofs.YtdgadbbjnhnkeaaGreatDoor
open Go.ChangeShapes Go.WideShapes Go.ChangeAt Go.RowKit Go.Ai
set_option maxRecDepth 100000 in
theorem ge1_ok : EntOk Tryz.prog 3 ge1 := ent_ok Tryz3.cfgOk (tbl := []) (ents_nil) 3000 gs1_wf gr1_wf (by kernel_rfl)
set_option maxRecDepth 100000 in
theorem ge7_ok : EntOk Tryz.prog 3 ge7 := ent_ok Tryz3.cfgOk (tbl := []) (ents_nil) 3000 gs7_wf gr7_wf (by kernel_rfl)
set_option maxRecDepth 100000 in
theorem ge13_ok : EntOk Tryz.prog 3 ge13 := ent_ok Tryz3.cfgOk (tbl := []) (ents_nil) 3000 gs13_wf gr13_wf (by kernel_rfl)
set_option maxRecDepth 100000 in
theorem ge20_ok : EntOk Tryz.prog 3 ge20 := ent_ok Tryz3.cfgOk (tbl := []) (ents_nil) 3000 gs20_wf gr20_wf (by kernel_rfl)
set_option maxRecDepth 100000 in
theorem ge27_ok : EntOk Tryz.prog 3 ge27 := ent_ok Tryz3.cfgOk (tbl := []) (ents_nil) 3000 gs27_wf gr27_wf (by kernel_rfl)
set_option maxRecDepth 100000 in
theorem ge34_ok : EntOk Tryz.prog 3 ge34 := ent_ok Tryz3.cfgOk (tbl := []) (ents_nil) 3000 gs34_wf gr34_wf (by kernel_rfl)
set_option maxRecDepth 100000 in
theorem ge39_ok : EntOk Tryz.prog 3 ge39 := ent_ok Tryz3.cfgOk (tbl := []) (ents_nil) 3000 gs39_wf gr39_wf (by kernel_rfl)
set_option maxRecDepth 100000 in
theorem ge47_ok : EntOk Tryz.prog 3 ge47 := ent_ok Tryz3.cfgOk (tbl := []) (ents_nil) 3000 gs47_wf gr47_wf (by kernel_rfl)
set_option maxRecDepth 100000 in
theorem ge54_ok : EntOk Tryz.prog 3 ge54 := ent_ok Tryz3.cfgOk (tbl := []) (ents_nil) 3000 gs54_wf gr54_wf (by kernel_rfl)
end Go.Proofs.YtdgadbbjnhnkeaaGreatDoor