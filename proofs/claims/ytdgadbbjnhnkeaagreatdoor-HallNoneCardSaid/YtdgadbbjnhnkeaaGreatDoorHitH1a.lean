/- Parts of a closed fact. -/
import Derived.Test.YtdgadbbjnhnkeaaGreatDoorHitH
set_option linter.unusedVariables false
set_option linter.unusedSimpArgs false
set_option linter.unnecessarySimpa false
namespace Go.Proofs.YtdgadbbjnhnkeaaGreatDoor
open Go.ChangeShapes Go.WideShapes Go.ChangeAt Go.RowKit Go.Ai
set_option maxRecDepth 100000 in
theorem he0_ok : EntOk Tryz.prog 3 he0 := ent_ok Tryz3.cfgOk (tbl := []) (ents_nil) 3000 hs0_wf hr0_wf (by kernel_rfl)
set_option maxRecDepth 100000 in
theorem he6_ok : EntOk Tryz.prog 3 he6 := ent_ok Tryz3.cfgOk (tbl := []) (ents_nil) 3000 hs6_wf hr6_wf (by kernel_rfl)
set_option maxRecDepth 100000 in
theorem he11_ok : EntOk Tryz.prog 3 he11 := ent_ok Tryz3.cfgOk (tbl := []) (ents_nil) 3000 hs11_wf hr11_wf (by kernel_rfl)
set_option maxRecDepth 100000 in
theorem he19_ok : EntOk Tryz.prog 3 he19 := ent_ok Tryz3.cfgOk (tbl := []) (ents_nil) 3000 hs19_wf hr19_wf (by kernel_rfl)
set_option maxRecDepth 100000 in
theorem he27_ok : EntOk Tryz.prog 3 he27 := ent_ok Tryz3.cfgOk (tbl := []) (ents_nil) 3000 hs27_wf hr27_wf (by kernel_rfl)
set_option maxRecDepth 100000 in
theorem he33_ok : EntOk Tryz.prog 3 he33 := ent_ok Tryz3.cfgOk (tbl := []) (ents_nil) 3000 hs33_wf hr33_wf (by kernel_rfl)
set_option maxRecDepth 100000 in
theorem he41_ok : EntOk Tryz.prog 3 he41 := ent_ok Tryz3.cfgOk (tbl := []) (ents_nil) 3000 hs41_wf hr41_wf (by kernel_rfl)
set_option maxRecDepth 100000 in
theorem he46_ok : EntOk Tryz.prog 3 he46 := ent_ok Tryz3.cfgOk (tbl := []) (ents_nil) 3000 hs46_wf hr46_wf (by kernel_rfl)
set_option maxRecDepth 100000 in
theorem he52_ok : EntOk Tryz.prog 3 he52 := ent_ok Tryz3.cfgOk (tbl := []) (ents_nil) 3000 hs52_wf hr52_wf (by kernel_rfl)
set_option maxRecDepth 100000 in
theorem he59_ok : EntOk Tryz.prog 3 he59 := ent_ok Tryz3.cfgOk (tbl := []) (ents_nil) 3000 hs59_wf hr59_wf (by kernel_rfl)
set_option maxRecDepth 100000 in
theorem he65_ok : EntOk Tryz.prog 3 he65 := ent_ok Tryz3.cfgOk (tbl := []) (ents_nil) 3000 hs65_wf hr65_wf (by kernel_rfl)
end Go.Proofs.YtdgadbbjnhnkeaaGreatDoor