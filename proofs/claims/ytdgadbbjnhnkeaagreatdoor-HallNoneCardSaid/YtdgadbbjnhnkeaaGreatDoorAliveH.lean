/- The closed fact. -/
import Derived.Test.YtdgadbbjnhnkeaaGreatDoorHitH1a
import Derived.Test.YtdgadbbjnhnkeaaGreatDoorHitH1b
import Derived.Test.YtdgadbbjnhnkeaaGreatDoorHitH1c
import Derived.Test.YtdgadbbjnhnkeaaGreatDoorHitH1d
import Derived.Test.YtdgadbbjnhnkeaaGreatDoorHitH2a
import Derived.Test.YtdgadbbjnhnkeaaGreatDoorHitH2b
import Derived.Test.YtdgadbbjnhnkeaaGreatDoorHitH2c
import Derived.Test.YtdgadbbjnhnkeaaGreatDoorHitH3a
import Derived.Test.YtdgadbbjnhnkeaaGreatDoorHitH4a
import Derived.Test.YtdgadbbjnhnkeaaGreatDoorHitH5a
import Derived.Test.YtdgadbbjnhnkeaaGreatDoorHitH6a
import Derived.Test.YtdgadbbjnhnkeaaGreatDoorHitH7a
import Derived.Test.YtdgadbbjnhnkeaaGreatDoorHitH8a
set_option linter.unusedVariables false
set_option linter.unusedSimpArgs false
set_option linter.unnecessarySimpa false
namespace Go.Proofs.YtdgadbbjnhnkeaaGreatDoor
open Go.ChangeShapes Go.WideShapes Go.ChangeAt Go.RowKit Go.Ai
set_option maxRecDepth 100000 in
theorem halive_run : allTrueG 9000 532 (istep Tryz3.cfg (runH Tryz3.cfg [he26, he37, he71] 3000) (.call 5 []) (glob3 532)) = true := by kernel_rfl
noncomputable def con_halive : Con Tryz.prog 3 := Con.closed3 Tryz3.cfgOk (ents_cons he26_ok (ents_cons he37_ok (ents_cons he71_ok ents_nil))) 3000 9000 532 5 halive_run
end Go.Proofs.YtdgadbbjnhnkeaaGreatDoor