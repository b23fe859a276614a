/- Parts of a closed fact. -/
import Derived.Test.YtdgadbbjnhnkeaaGreatDoorHitG
import Derived.Test.YtdgadbbjnhnkeaaGreatDoorHitG1a
import Derived.Test.YtdgadbbjnhnkeaaGreatDoorHitG1b
import Derived.Test.YtdgadbbjnhnkeaaGreatDoorHitG1c
import Derived.Test.YtdgadbbjnhnkeaaGreatDoorHitG1d
import Derived.Test.YtdgadbbjnhnkeaaGreatDoorHitG2a
import Derived.Test.YtdgadbbjnhnkeaaGreatDoorHitG2b
import Derived.Test.YtdgadbbjnhnkeaaGreatDoorHitG3a
import Derived.Test.YtdgadbbjnhnkeaaGreatDoorHitG4a
import Derived.Test.YtdgadbbjnhnkeaaGreatDoorHitG5a
import Derived.Test.YtdgadbbjnhnkeaaGreatDoorHitG6a
set_option linter.unusedVariables false
set_option linter.unusedSimpArgs false
set_option linter.unnecessarySimpa false
namespace Go.Proofs.YtdgadbbjnhnkeaaGreatDoor
open Go.ChangeShapes Go.WideShapes Go.ChangeAt Go.RowKit Go.Ai
set_option maxRecDepth 100000 in
theorem ge25_ok : EntOk Tryz.prog 3 ge25 := ent_ok Tryz3.cfgOk (tbl := [ge5, ge24]) (ents_cons ge5_ok (ents_cons ge24_ok ents_nil)) 3000 gs25_wf gr25_wf (by kernel_rfl)
end Go.Proofs.YtdgadbbjnhnkeaaGreatDoor