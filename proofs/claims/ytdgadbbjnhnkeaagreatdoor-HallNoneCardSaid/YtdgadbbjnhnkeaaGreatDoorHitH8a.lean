/- Parts of a closed fact. -/
import Derived.Test.YtdgadbbjnhnkeaaGreatDoorHitH
import Derived.Test.YtdgadbbjnhnkeaaGreatDoorHitH1a
import Derived.Test.YtdgadbbjnhnkeaaGreatDoorHitH1b
import Derived.Test.YtdgadbbjnhnkeaaGreatDoorHitH1c
import Derived.Test.YtdgadbbjnhnkeaaGreatDoorHitH1d
import Derived.Test.YtdgadbbjnhnkeaaGreatDoorHitH2a
import Derived.Test.YtdgadbbjnhnkeaaGreatDoorHitH2b
import Derived.Test.YtdgadbbjnhnkeaaGreatDoorHitH2c
import Derived.Test.YtdgadbbjnhnkeaaGreatDoorHitH3a
import Derived.Test.YtdgadbbjnhnkeaaGreatDoorHitH4a
import Derived.Test.YtdgadbbjnhnkeaaGreatDoorHitH5a
import Derived.Test.YtdgadbbjnhnkeaaGreatDoorHitH6a
import Derived.Test.YtdgadbbjnhnkeaaGreatDoorHitH7a
set_option linter.unusedVariables false
set_option linter.unusedSimpArgs false
set_option linter.unnecessarySimpa false
namespace Go.Proofs.YtdgadbbjnhnkeaaGreatDoor
open Go.ChangeShapes Go.WideShapes Go.ChangeAt Go.RowKit Go.Ai
set_option maxRecDepth 100000 in
theorem he26_ok : EntOk Tryz.prog 3 he26 := ent_ok Tryz3.cfgOk (tbl := [he5, he25]) (ents_cons he5_ok (ents_cons he25_ok ents_nil)) 3000 hs26_wf hr26_wf (by kernel_rfl)
end Go.Proofs.YtdgadbbjnhnkeaaGreatDoor