/- Parts of a closed fact. -/
import Derived.Test.YtdgadbbjnhnkeaaGreatDoorHitH
set_option linter.unusedVariables false
set_option linter.unusedSimpArgs false
set_option linter.unnecessarySimpa false
namespace Go.Proofs.YtdgadbbjnhnkeaaGreatDoor
open Go.ChangeShapes Go.WideShapes Go.ChangeAt Go.RowKit Go.Ai
set_option maxRecDepth 100000 in
theorem he3_ok : EntOk Tryz.prog 3 he3 := ent_ok Tryz3.cfgOk (tbl := []) (ents_nil) 3000 hs3_wf hr3_wf (by kernel_rfl)
set_option maxRecDepth 100000 in
theorem he9_ok : EntOk Tryz.prog 3 he9 := ent_ok Tryz3.cfgOk (tbl := []) (ents_nil) 3000 hs9_wf hr9_wf (by kernel_rfl)
set_option maxRecDepth 100000 in
theorem he14_ok : EntOk Tryz.prog 3 he14 := ent_ok Tryz3.cfgOk (tbl := []) (ents_nil) 3000 hs14_wf hr14_wf (by kernel_rfl)
set_option maxRecDepth 100000 in
theorem he22_ok : EntOk Tryz.prog 3 he22 := ent_ok Tryz3.cfgOk (tbl := []) (ents_nil) 3000 hs22_wf hr22_wf (by kernel_rfl)
set_option maxRecDepth 100000 in
theorem he29_ok : EntOk Tryz.prog 3 he29 := ent_ok Tryz3.cfgOk (tbl := []) (ents_nil) 3000 hs29_wf hr29_wf (by kernel_rfl)
set_option maxRecDepth 100000 in
theorem he38_ok : EntOk Tryz.prog 3 he38 := ent_ok Tryz3.cfgOk (tbl := []) (ents_nil) 3000 hs38_wf hr38_wf (by kernel_rfl)
set_option maxRecDepth 100000 in
theorem he43_ok : EntOk Tryz.prog 3 he43 := ent_ok Tryz3.cfgOk (tbl := []) (ents_nil) 3000 hs43_wf hr43_wf (by kernel_rfl)
set_option maxRecDepth 100000 in
theorem he49_ok : EntOk Tryz.prog 3 he49 := ent_ok Tryz3.cfgOk (tbl := []) (ents_nil) 3000 hs49_wf hr49_wf (by kernel_rfl)
set_option maxRecDepth 100000 in
theorem he57_ok : EntOk Tryz.prog 3 he57 := ent_ok Tryz3.cfgOk (tbl := []) (ents_nil) 3000 hs57_wf hr57_wf (by kernel_rfl)
set_option maxRecDepth 100000 in
theorem he62_ok : EntOk Tryz.prog 3 he62 := ent_ok Tryz3.cfgOk (tbl := []) (ents_nil) 3000 hs62_wf hr62_wf (by kernel_rfl)
set_option maxRecDepth 100000 in
theorem he69_ok : EntOk Tryz.prog 3 he69 := ent_ok Tryz3.cfgOk (tbl := []) (ents_nil) 3000 hs69_wf hr69_wf (by kernel_rfl)
end Go.Proofs.YtdgadbbjnhnkeaaGreatDoor