/- Parts of a closed fact. -/
import Derived.Test.YtdgadbbjnhnkeaaGreatDoorHitH
import Derived.Test.YtdgadbbjnhnkeaaGreatDoorHitH1a
import Derived.Test.YtdgadbbjnhnkeaaGreatDoorHitH1b
import Derived.Test.YtdgadbbjnhnkeaaGreatDoorHitH1c
import Derived.Test.YtdgadbbjnhnkeaaGreatDoorHitH1d
set_option linter.unusedVariables false
set_option linter.unusedSimpArgs false
set_option linter.unnecessarySimpa false
namespace Go.Proofs.YtdgadbbjnhnkeaaGreatDoor
open Go.ChangeShapes Go.WideShapes Go.ChangeAt Go.RowKit Go.Ai
set_option maxRecDepth 100000 in
theorem he8_ok : EntOk Tryz.prog 3 he8 := ent_ok Tryz3.cfgOk (tbl := [he6, he7]) (ents_cons he6_ok (ents_cons he7_ok ents_nil)) 3000 hs8_wf hr8_wf (by kernel_rfl)
set_option maxRecDepth 100000 in
theorem he30_ok : EntOk Tryz.prog 3 he30 := ent_ok Tryz3.cfgOk (tbl := [he29]) (ents_cons he29_ok ents_nil) 3000 hs30_wf hr30_wf (by kernel_rfl)
set_option maxRecDepth 100000 in
theorem he45_ok : EntOk Tryz.prog 3 he45 := ent_ok Tryz3.cfgOk (tbl := [he43, he44]) (ents_cons he43_ok (ents_cons he44_ok ents_nil)) 3000 hs45_wf hr45_wf (by kernel_rfl)
set_option maxRecDepth 100000 in
theorem he54_ok : EntOk Tryz.prog 3 he54 := ent_ok Tryz3.cfgOk (tbl := [he52, he53]) (ents_cons he52_ok (ents_cons he53_ok ents_nil)) 3000 hs54_wf hr54_wf (by kernel_rfl)
end Go.Proofs.YtdgadbbjnhnkeaaGreatDoor