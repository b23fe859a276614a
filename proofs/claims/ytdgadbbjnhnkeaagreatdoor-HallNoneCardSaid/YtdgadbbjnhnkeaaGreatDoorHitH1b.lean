/- Parts of a closed fact. -/
import Derived.Test.YtdgadbbjnhnkeaaGreatDoorHitH
set_option linter.unusedVariables false
set_option linter.unusedSimpArgs false
set_option linter.unnecessarySimpa false
namespace Go.Proofs.YtdgadbbjnhnkeaaGreatDoor
open Go.ChangeShapes Go.WideShapes Go.ChangeAt Go.RowKit Go.Ai
set_option maxRecDepth 100000 in
theorem he1_ok : EntOk Tryz.prog 3 he1 := ent_ok Tryz3.cfgOk (tbl := []) (ents_nil) 3000 hs1_wf hr1_wf (by kernel_rfl)
set_option maxRecDepth 100000 in
theorem he7_ok : EntOk Tryz.prog 3 he7 := ent_ok Tryz3.cfgOk (tbl := []) (ents_nil) 3000 hs7_wf hr7_wf (by kernel_rfl)
set_option maxRecDepth 100000 in
theorem he13_ok : EntOk Tryz.prog 3 he13 := ent_ok Tryz3.cfgOk (tbl := []) (ents_nil) 3000 hs13_wf hr13_wf (by kernel_rfl)
set_option maxRecDepth 100000 in
theorem he20_ok : EntOk Tryz.prog 3 he20 := ent_ok Tryz3.cfgOk (tbl := []) (ents_nil) 3000 hs20_wf hr20_wf (by kernel_rfl)
set_option maxRecDepth 100000 in
theorem he28_ok : EntOk Tryz.prog 3 he28 := ent_ok Tryz3.cfgOk (tbl := []) (ents_nil) 3000 hs28_wf hr28_wf (by kernel_rfl)
set_option maxRecDepth 100000 in
theorem he34_ok : EntOk Tryz.prog 3 he34 := ent_ok Tryz3.cfgOk (tbl := []) (ents_nil) 3000 hs34_wf hr34_wf (by kernel_rfl)
set_option maxRecDepth 100000 in
theorem he42_ok : EntOk Tryz.prog 3 he42 := ent_ok Tryz3.cfgOk (tbl := []) (ents_nil) 3000 hs42_wf hr42_wf (by kernel_rfl)
set_option maxRecDepth 100000 in
theorem he47_ok : EntOk Tryz.prog 3 he47 := ent_ok Tryz3.cfgOk (tbl := []) (ents_nil) 3000 hs47_wf hr47_wf (by kernel_rfl)
set_option maxRecDepth 100000 in
theorem he53_ok : EntOk Tryz.prog 3 he53 := ent_ok Tryz3.cfgOk (tbl := []) (ents_nil) 3000 hs53_wf hr53_wf (by kernel_rfl)
set_option maxRecDepth 100000 in
theorem he61_ok : EntOk Tryz.prog 3 he61 := ent_ok Tryz3.cfgOk (tbl := []) (ents_nil) 3000 hs61_wf hr61_wf (by kernel_rfl)
set_option maxRecDepth 100000 in
theorem he68_ok : EntOk Tryz.prog 3 he68 := ent_ok Tryz3.cfgOk (tbl := []) (ents_nil) 3000 hs68_wf hr68_wf (by kernel_rfl)
end Go.Proofs.YtdgadbbjnhnkeaaGreatDoor