/- Parts of a closed fact. -/
import Derived.Test.YtdgadbbjnhnkeaaGreatDoorHitH
import Derived.Test.YtdgadbbjnhnkeaaGreatDoorHitH1a
import Derived.Test.YtdgadbbjnhnkeaaGreatDoorHitH1b
import Derived.Test.YtdgadbbjnhnkeaaGreatDoorHitH1c
import Derived.Test.YtdgadbbjnhnkeaaGreatDoorHitH1d
set_option linter.unusedVariables false
set_option linter.unusedSimpArgs false
set_option linter.unnecessarySimpa false
namespace Go.Proofs.YtdgadbbjnhnkeaaGreatDoor
open Go.ChangeShapes Go.WideShapes Go.ChangeAt Go.RowKit Go.Ai
set_option maxRecDepth 100000 in
theorem he2_ok : EntOk Tryz.prog 3 he2 := ent_ok Tryz3.cfgOk (tbl := [he0, he1]) (ents_cons he0_ok (ents_cons he1_ok ents_nil)) 3000 hs2_wf hr2_wf (by kernel_rfl)
set_option maxRecDepth 100000 in
theorem he15_ok : EntOk Tryz.prog 3 he15 := ent_ok Tryz3.cfgOk (tbl := [he14]) (ents_cons he14_ok ents_nil) 3000 hs15_wf hr15_wf (by kernel_rfl)
set_option maxRecDepth 100000 in
theorem he40_ok : EntOk Tryz.prog 3 he40 := ent_ok Tryz3.cfgOk (tbl := [he38, he39]) (ents_cons he38_ok (ents_cons he39_ok ents_nil)) 3000 hs40_wf hr40_wf (by kernel_rfl)
set_option maxRecDepth 100000 in
theorem he51_ok : EntOk Tryz.prog 3 he51 := ent_ok Tryz3.cfgOk (tbl := [he49, he50]) (ents_cons he49_ok (ents_cons he50_ok ents_nil)) 3000 hs51_wf hr51_wf (by kernel_rfl)
set_option maxRecDepth 100000 in
theorem he64_ok : EntOk Tryz.prog 3 he64 := ent_ok Tryz3.cfgOk (tbl := [he63]) (ents_cons he63_ok ents_nil) 3000 hs64_wf hr64_wf (by kernel_rfl)
end Go.Proofs.YtdgadbbjnhnkeaaGreatDoor