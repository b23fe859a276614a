/- Parts of a closed fact. -/
import Derived.Test.YtdgadbbjnhnkeaaGreatDoorHitH
import Derived.Test.YtdgadbbjnhnkeaaGreatDoorHitH1a
import Derived.Test.YtdgadbbjnhnkeaaGreatDoorHitH1b
import Derived.Test.YtdgadbbjnhnkeaaGreatDoorHitH1c
import Derived.Test.YtdgadbbjnhnkeaaGreatDoorHitH1d
set_option linter.unusedVariables false
set_option linter.unusedSimpArgs false
set_option linter.unnecessarySimpa false
namespace Go.Proofs.YtdgadbbjnhnkeaaGreatDoor
open Go.ChangeShapes Go.WideShapes Go.ChangeAt Go.RowKit Go.Ai
set_option maxRecDepth 100000 in
theorem he12_ok : EntOk Tryz.prog 3 he12 := ent_ok Tryz3.cfgOk (tbl := [he11]) (ents_cons he11_ok ents_nil) 3000 hs12_wf hr12_wf (by kernel_rfl)
set_option maxRecDepth 100000 in
theorem he35_ok : EntOk Tryz.prog 3 he35 := ent_ok Tryz3.cfgOk (tbl := [he34]) (ents_cons he34_ok ents_nil) 3000 hs35_wf hr35_wf (by kernel_rfl)
set_option maxRecDepth 100000 in
theorem he48_ok : EntOk Tryz.prog 3 he48 := ent_ok Tryz3.cfgOk (tbl := [he46, he47]) (ents_cons he46_ok (ents_cons he47_ok ents_nil)) 3000 hs48_wf hr48_wf (by kernel_rfl)
set_option maxRecDepth 100000 in
theorem he60_ok : EntOk Tryz.prog 3 he60 := ent_ok Tryz3.cfgOk (tbl := [he59]) (ents_cons he59_ok ents_nil) 3000 hs60_wf hr60_wf (by kernel_rfl)
end Go.Proofs.YtdgadbbjnhnkeaaGreatDoor