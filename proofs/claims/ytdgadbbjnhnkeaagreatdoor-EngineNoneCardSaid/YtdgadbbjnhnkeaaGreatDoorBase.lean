/- The tables of the program, without and with the program's variables. -/
import Derived.Test.YtdgadbbjnhnkeaaGreatDoorAiRn
import Derived.Test.YtdgadbbjnhnkeaaGreatDoorRows
set_option linter.unusedVariables false
set_option linter.unusedSimpArgs false
set_option linter.unnecessarySimpa false
namespace Go.Proofs.YtdgadbbjnhnkeaaGreatDoor
open Go.ChangeShapes Go.WideShapes Go.ChangeAt Go.RowKit Go.Ai
noncomputable def Tryz.ft : T Func := T.ofList Tryz.prog.funcs.toList
noncomputable def Tryz.tt : T (Option Ty) := T.ofList ((List.range 568).map (tyRow Tryz.prog))
noncomputable def Tryz.pt : T (Option (List CK)) := T.ofList ((List.range 568).map (peqOf Tryz.prog 20))
noncomputable def Tryz.cfg : Cfg := cfgP Tryz.prog 0 Tryz.ft Tryz.tt Tryz.pt
theorem Tryz.cfgOk : CfgOk Tryz.prog Tryz.cfg (okK 0) := cfgP_ok 0 568 (by kernel_rfl)
noncomputable def Tryz3.cfg : Cfg := cfgP Tryz.prog 3 Tryz.ft Tryz.tt Tryz.pt
theorem Tryz3.cfgOk : CfgOk Tryz.prog Tryz3.cfg (okK 3) := cfgP_ok 3 568 (by kernel_rfl)
theorem tokC3 : TokC Tryz3.cfg := ⟨rfl, rfl⟩
end Go.Proofs.YtdgadbbjnhnkeaaGreatDoor