/- Parts of a closed fact. -/
import Derived.Test.YtdgadbbjnhnkeaaGreatDoorHitH
import Derived.Test.YtdgadbbjnhnkeaaGreatDoorHitH1a
import Derived.Test.YtdgadbbjnhnkeaaGreatDoorHitH1b
import Derived.Test.YtdgadbbjnhnkeaaGreatDoorHitH1c
import Derived.Test.YtdgadbbjnhnkeaaGreatDoorHitH1d
import Derived.Test.YtdgadbbjnhnkeaaGreatDoorHitH2a
import Derived.Test.YtdgadbbjnhnkeaaGreatDoorHitH2b
import Derived.Test.YtdgadbbjnhnkeaaGreatDoorHitH2c
import Derived.Test.YtdgadbbjnhnkeaaGreatDoorHitH3a
set_option linter.unusedVariables false
set_option linter.unusedSimpArgs false
set_option linter.unnecessarySimpa false
namespace Go.Proofs.YtdgadbbjnhnkeaaGreatDoor
open Go.ChangeShapes Go.WideShapes Go.ChangeAt Go.RowKit Go.Ai
set_option maxRecDepth 100000 in
theorem he18_ok : EntOk Tryz.prog 3 he18 := ent_ok Tryz3.cfgOk (tbl := [he9, he10, he17]) (ents_cons he9_ok (ents_cons he10_ok (ents_cons he17_ok ents_nil))) 3000 hs18_wf hr18_wf (by kernel_rfl)
set_option maxRecDepth 100000 in
theorem he37_ok : EntOk Tryz.prog 3 he37 := ent_ok Tryz3.cfgOk (tbl := [he31, he36]) (ents_cons he31_ok (ents_cons he36_ok ents_nil)) 3000 hs37_wf hr37_wf (by kernel_rfl)
set_option maxRecDepth 100000 in
theorem he56_ok : EntOk Tryz.prog 3 he56 := ent_ok Tryz3.cfgOk (tbl := [he41, he42, he55]) (ents_cons he41_ok (ents_cons he42_ok (ents_cons he55_ok ents_nil))) 3000 hs56_wf hr56_wf (by kernel_rfl)
end Go.Proofs.YtdgadbbjnhnkeaaGreatDoor