/- Parts of a closed fact. -/
import Derived.Test.YtdgadbbjnhnkeaaGreatDoorHitG
set_option linter.unusedVariables false
set_option linter.unusedSimpArgs false
set_option linter.unnecessarySimpa false
namespace Go.Proofs.YtdgadbbjnhnkeaaGreatDoor
open Go.ChangeShapes Go.WideShapes Go.ChangeAt Go.RowKit Go.Ai
set_option maxRecDepth 100000 in
theorem ge0_ok : EntOk Tryz.prog 3 ge0 := ent_ok Tryz3.cfgOk (tbl := []) (ents_nil) 3000 gs0_wf gr0_wf (by kernel_rfl)
set_option maxRecDepth 100000 in
theorem ge6_ok : EntOk Tryz.prog 3 ge6 := ent_ok Tryz3.cfgOk (tbl := []) (ents_nil) 3000 gs6_wf gr6_wf (by kernel_rfl)
set_option maxRecDepth 100000 in
theorem ge11_ok : EntOk Tryz.prog 3 ge11 := ent_ok Tryz3.cfgOk (tbl := []) (ents_nil) 3000 gs11_wf gr11_wf (by kernel_rfl)
set_option maxRecDepth 100000 in
theorem ge19_ok : EntOk Tryz.prog 3 ge19 := ent_ok Tryz3.cfgOk (tbl := []) (ents_nil) 3000 gs19_wf gr19_wf (by kernel_rfl)
set_option maxRecDepth 100000 in
theorem ge26_ok : EntOk Tryz.prog 3 ge26 := ent_ok Tryz3.cfgOk (tbl := []) (ents_nil) 3000 gs26_wf gr26_wf (by kernel_rfl)
set_option maxRecDepth 100000 in
theorem ge32_ok : EntOk Tryz.prog 3 ge32 := ent_ok Tryz3.cfgOk (tbl := []) (ents_nil) 3000 gs32_wf gr32_wf (by kernel_rfl)
set_option maxRecDepth 100000 in
theorem ge37_ok : EntOk Tryz.prog 3 ge37 := ent_ok Tryz3.cfgOk (tbl := []) (ents_nil) 3000 gs37_wf gr37_wf (by kernel_rfl)
set_option maxRecDepth 100000 in
theorem ge44_ok : EntOk Tryz.prog 3 ge44 := ent_ok Tryz3.cfgOk (tbl := []) (ents_nil) 3000 gs44_wf gr44_wf (by kernel_rfl)
set_option maxRecDepth 100000 in
theorem ge51_ok : EntOk Tryz.prog 3 ge51 := ent_ok Tryz3.cfgOk (tbl := []) (ents_nil) 3000 gs51_wf gr51_wf (by kernel_rfl)
end Go.Proofs.YtdgadbbjnhnkeaaGreatDoor