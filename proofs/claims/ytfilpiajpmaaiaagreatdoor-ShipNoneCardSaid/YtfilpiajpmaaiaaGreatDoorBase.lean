/- The tables of the program, without and with the program's variables. -/
import Derived.Test.YtfilpiajpmaaiaaGreatDoorAiRn
import Derived.Test.YtfilpiajpmaaiaaGreatDoorRows
set_option linter.unusedVariables false
set_option linter.unusedSimpArgs false
set_option linter.unnecessarySimpa false
namespace Go.Proofs.YtfilpiajpmaaiaaGreatDoor
open Go.ChangeShapes Go.WideShapes Go.ChangeAt Go.RowKit Go.Ai
noncomputable def Tryz.ft : T Func := T.ofList Tryz.prog.funcs.toList
noncomputable def Tryz.tt : T (Option Ty) := T.ofList ((List.range 495).map (tyRow Tryz.prog))
noncomputable def Tryz.pt : T (Option (List CK)) := T.ofList ((List.range 495).map (peqOf Tryz.prog 20))
noncomputable def Tryz.cfg : Cfg := cfgP Tryz.prog 0 Tryz.ft Tryz.tt Tryz.pt
theorem Tryz.cfgOk : CfgOk Tryz.prog Tryz.cfg (okK 0) := cfgP_ok 0 495 (by kernel_rfl)
theorem tokC : TokC Tryz.cfg := ⟨rfl, rfl⟩
noncomputable def Tryz3.cfg : Cfg := cfgP Tryz.prog 3 Tryz.ft Tryz.tt Tryz.pt
theorem Tryz3.cfgOk : CfgOk Tryz.prog Tryz3.cfg (okK 3) := cfgP_ok 3 495 (by kernel_rfl)
end Go.Proofs.YtfilpiajpmaaiaaGreatDoor