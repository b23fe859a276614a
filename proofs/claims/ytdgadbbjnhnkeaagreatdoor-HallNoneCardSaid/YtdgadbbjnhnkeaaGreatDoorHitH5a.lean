/- Parts of a closed fact. -/
import Derived.Test.YtdgadbbjnhnkeaaGreatDoorHitH
import Derived.Test.YtdgadbbjnhnkeaaGreatDoorHitH1a
import Derived.Test.YtdgadbbjnhnkeaaGreatDoorHitH1b
import Derived.Test.YtdgadbbjnhnkeaaGreatDoorHitH1c
import Derived.Test.YtdgadbbjnhnkeaaGreatDoorHitH1d
import Derived.Test.YtdgadbbjnhnkeaaGreatDoorHitH2a
import Derived.Test.YtdgadbbjnhnkeaaGreatDoorHitH2b
import Derived.Test.YtdgadbbjnhnkeaaGreatDoorHitH2c
import Derived.Test.YtdgadbbjnhnkeaaGreatDoorHitH3a
import Derived.Test.YtdgadbbjnhnkeaaGreatDoorHitH4a
set_option linter.unusedVariables false
set_option linter.unusedSimpArgs false
set_option linter.unnecessarySimpa false
namespace Go.Proofs.YtdgadbbjnhnkeaaGreatDoor
open Go.ChangeShapes Go.WideShapes Go.ChangeAt Go.RowKit Go.Ai
set_option maxRecDepth 100000 in
theorem he21_ok : EntOk Tryz.prog 3 he21 := ent_ok Tryz3.cfgOk (tbl := [he18, he19, he20]) (ents_cons he18_ok (ents_cons he19_ok (ents_cons he20_ok ents_nil))) 3000 hs21_wf hr21_wf (by kernel_rfl)
set_option maxRecDepth 100000 in
theorem he67_ok : EntOk Tryz.prog 3 he67 := ent_ok Tryz3.cfgOk (tbl := [he56, he57, he66]) (ents_cons he56_ok (ents_cons he57_ok (ents_cons he66_ok ents_nil))) 3000 hs67_wf hr67_wf (by kernel_rfl)
end Go.Proofs.YtdgadbbjnhnkeaaGreatDoor