/- Parts of a closed fact. -/
import Derived.Test.YtdgadbbjnhnkeaaGreatDoorHitH
set_option linter.unusedVariables false
set_option linter.unusedSimpArgs false
set_option linter.unnecessarySimpa false
namespace Go.Proofs.YtdgadbbjnhnkeaaGreatDoor
open Go.ChangeShapes Go.WideShapes Go.ChangeAt Go.RowKit Go.Ai
set_option maxRecDepth 100000 in
theorem he4_ok : EntOk Tryz.prog 3 he4 := ent_ok Tryz3.cfgOk (tbl := []) (ents_nil) 3000 hs4_wf hr4_wf (by kernel_rfl)
set_option maxRecDepth 100000 in
theorem he10_ok : EntOk Tryz.prog 3 he10 := ent_ok Tryz3.cfgOk (tbl := []) (ents_nil) 3000 hs10_wf hr10_wf (by kernel_rfl)
set_option maxRecDepth 100000 in
theorem he16_ok : EntOk Tryz.prog 3 he16 := ent_ok Tryz3.cfgOk (tbl := []) (ents_nil) 3000 hs16_wf hr16_wf (by kernel_rfl)
set_option maxRecDepth 100000 in
theorem he23_ok : EntOk Tryz.prog 3 he23 := ent_ok Tryz3.cfgOk (tbl := []) (ents_nil) 3000 hs23_wf hr23_wf (by kernel_rfl)
set_option maxRecDepth 100000 in
theorem he32_ok : EntOk Tryz.prog 3 he32 := ent_ok Tryz3.cfgOk (tbl := []) (ents_nil) 3000 hs32_wf hr32_wf (by kernel_rfl)
set_option maxRecDepth 100000 in
theorem he39_ok : EntOk Tryz.prog 3 he39 := ent_ok Tryz3.cfgOk (tbl := []) (ents_nil) 3000 hs39_wf hr39_wf (by kernel_rfl)
set_option maxRecDepth 100000 in
theorem he44_ok : EntOk Tryz.prog 3 he44 := ent_ok Tryz3.cfgOk (tbl := []) (ents_nil) 3000 hs44_wf hr44_wf (by kernel_rfl)
set_option maxRecDepth 100000 in
theorem he50_ok : EntOk Tryz.prog 3 he50 := ent_ok Tryz3.cfgOk (tbl := []) (ents_nil) 3000 hs50_wf hr50_wf (by kernel_rfl)
set_option maxRecDepth 100000 in
theorem he58_ok : EntOk Tryz.prog 3 he58 := ent_ok Tryz3.cfgOk (tbl := []) (ents_nil) 3000 hs58_wf hr58_wf (by kernel_rfl)
set_option maxRecDepth 100000 in
theorem he63_ok : EntOk Tryz.prog 3 he63 := ent_ok Tryz3.cfgOk (tbl := []) (ents_nil) 3000 hs63_wf hr63_wf (by kernel_rfl)
end Go.Proofs.YtdgadbbjnhnkeaaGreatDoor