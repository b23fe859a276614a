/- Parts of a closed fact. -/
import Derived.Test.YtdgadbbjnhnkeaaGreatDoorHitH
import Derived.Test.YtdgadbbjnhnkeaaGreatDoorHitH1a
import Derived.Test.YtdgadbbjnhnkeaaGreatDoorHitH1b
import Derived.Test.YtdgadbbjnhnkeaaGreatDoorHitH1c
import Derived.Test.YtdgadbbjnhnkeaaGreatDoorHitH1d
import Derived.Test.YtdgadbbjnhnkeaaGreatDoorHitH2a
import Derived.Test.YtdgadbbjnhnkeaaGreatDoorHitH2b
import Derived.Test.YtdgadbbjnhnkeaaGreatDoorHitH2c
import Derived.Test.YtdgadbbjnhnkeaaGreatDoorHitH3a
import Derived.Test.YtdgadbbjnhnkeaaGreatDoorHitH4a
import Derived.Test.YtdgadbbjnhnkeaaGreatDoorHitH5a
set_option linter.unusedVariables false
set_option linter.unusedSimpArgs false
set_option linter.unnecessarySimpa false
namespace Go.Proofs.YtdgadbbjnhnkeaaGreatDoor
open Go.ChangeShapes Go.WideShapes Go.ChangeAt Go.RowKit Go.Ai
set_option maxRecDepth 100000 in
theorem he24_ok : EntOk Tryz.prog 3 he24 := ent_ok Tryz3.cfgOk (tbl := [he8, he21, he22, he23]) (ents_cons he8_ok (ents_cons he21_ok (ents_cons he22_ok (ents_cons he23_ok ents_nil)))) 3000 hs24_wf hr24_wf (by kernel_rfl)
set_option maxRecDepth 100000 in
theorem he70_ok : EntOk Tryz.prog 3 he70 := ent_ok Tryz3.cfgOk (tbl := [he40, he67, he68, he69]) (ents_cons he40_ok (ents_cons he67_ok (ents_cons he68_ok (ents_cons he69_ok ents_nil)))) 3000 hs70_wf hr70_wf (by kernel_rfl)
end Go.Proofs.YtdgadbbjnhnkeaaGreatDoor