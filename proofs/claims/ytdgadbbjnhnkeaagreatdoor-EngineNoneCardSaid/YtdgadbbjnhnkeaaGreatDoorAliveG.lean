/- The closed fact. -/
import Derived.Test.YtdgadbbjnhnkeaaGreatDoorHitG1a
import Derived.Test.YtdgadbbjnhnkeaaGreatDoorHitG1b
import Derived.Test.YtdgadbbjnhnkeaaGreatDoorHitG1c
import Derived.Test.YtdgadbbjnhnkeaaGreatDoorHitG1d
import Derived.Test.YtdgadbbjnhnkeaaGreatDoorHitG2a
import Derived.Test.YtdgadbbjnhnkeaaGreatDoorHitG2b
import Derived.Test.YtdgadbbjnhnkeaaGreatDoorHitG3a
import Derived.Test.YtdgadbbjnhnkeaaGreatDoorHitG4a
import Derived.Test.YtdgadbbjnhnkeaaGreatDoorHitG5a
import Derived.Test.YtdgadbbjnhnkeaaGreatDoorHitG6a
import Derived.Test.YtdgadbbjnhnkeaaGreatDoorHitG7a
set_option linter.unusedVariables false
set_option linter.unusedSimpArgs false
set_option linter.unnecessarySimpa false
namespace Go.Proofs.YtdgadbbjnhnkeaaGreatDoor
open Go.ChangeShapes Go.WideShapes Go.ChangeAt Go.RowKit Go.Ai
set_option maxRecDepth 100000 in
theorem galive_run : allTrueG 9000 532 (istep Tryz3.cfg (runH Tryz3.cfg [ge25, ge30, ge56] 3000) (.call 14 []) (glob3 532)) = true := by kernel_rfl
noncomputable def con_galive : Con Tryz.prog 3 := Con.closed3 Tryz3.cfgOk (ents_cons ge25_ok (ents_cons ge30_ok (ents_cons ge56_ok ents_nil))) 3000 9000 532 14 galive_run
end Go.Proofs.YtdgadbbjnhnkeaaGreatDoor