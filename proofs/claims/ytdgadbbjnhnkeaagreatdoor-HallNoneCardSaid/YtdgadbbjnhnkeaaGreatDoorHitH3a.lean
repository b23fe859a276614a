/- Parts of a closed fact. -/
import Derived.Test.YtdgadbbjnhnkeaaGreatDoorHitH
import Derived.Test.YtdgadbbjnhnkeaaGreatDoorHitH1a
import Derived.Test.YtdgadbbjnhnkeaaGreatDoorHitH1b
import Derived.Test.YtdgadbbjnhnkeaaGreatDoorHitH1c
import Derived.Test.YtdgadbbjnhnkeaaGreatDoorHitH1d
import Derived.Test.YtdgadbbjnhnkeaaGreatDoorHitH2a
import Derived.Test.YtdgadbbjnhnkeaaGreatDoorHitH2b
import Derived.Test.YtdgadbbjnhnkeaaGreatDoorHitH2c
set_option linter.unusedVariables false
set_option linter.unusedSimpArgs false
set_option linter.unnecessarySimpa false
namespace Go.Proofs.YtdgadbbjnhnkeaaGreatDoor
open Go.ChangeShapes Go.WideShapes Go.ChangeAt Go.RowKit Go.Ai
set_option maxRecDepth 100000 in
theorem he5_ok : EntOk Tryz.prog 3 he5 := ent_ok Tryz3.cfgOk (tbl := [he2, he3, he4]) (ents_cons he2_ok (ents_cons he3_ok (ents_cons he4_ok ents_nil))) 3000 hs5_wf hr5_wf (by kernel_rfl)
set_option maxRecDepth 100000 in
theorem he17_ok : EntOk Tryz.prog 3 he17 := ent_ok Tryz3.cfgOk (tbl := [he12, he13, he15, he16]) (ents_cons he12_ok (ents_cons he13_ok (ents_cons he15_ok (ents_cons he16_ok ents_nil)))) 3000 hs17_wf hr17_wf (by kernel_rfl)
set_option maxRecDepth 100000 in
theorem he31_ok : EntOk Tryz.prog 3 he31 := ent_ok Tryz3.cfgOk (tbl := [he27, he28, he30]) (ents_cons he27_ok (ents_cons he28_ok (ents_cons he30_ok ents_nil))) 3000 hs31_wf hr31_wf (by kernel_rfl)
set_option maxRecDepth 100000 in
theorem he36_ok : EntOk Tryz.prog 3 he36 := ent_ok Tryz3.cfgOk (tbl := [he32, he33, he35]) (ents_cons he32_ok (ents_cons he33_ok (ents_cons he35_ok ents_nil))) 3000 hs36_wf hr36_wf (by kernel_rfl)
set_option maxRecDepth 100000 in
theorem he55_ok : EntOk Tryz.prog 3 he55 := ent_ok Tryz3.cfgOk (tbl := [he45, he48, he51, he54]) (ents_cons he45_ok (ents_cons he48_ok (ents_cons he51_ok (ents_cons he54_ok ents_nil)))) 3000 hs55_wf hr55_wf (by kernel_rfl)
set_option maxRecDepth 100000 in
theorem he66_ok : EntOk Tryz.prog 3 he66 := ent_ok Tryz3.cfgOk (tbl := [he58, he60, he61, he62, he64, he65]) (ents_cons he58_ok (ents_cons he60_ok (ents_cons he61_ok (ents_cons he62_ok (ents_cons he64_ok (ents_cons he65_ok ents_nil)))))) 3000 hs66_wf hr66_wf (by kernel_rfl)
end Go.Proofs.YtdgadbbjnhnkeaaGreatDoor