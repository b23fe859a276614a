/- The tables of the program, and what the chapter's example comes to. -/
import Derived.Test.YtfnbgfmmlgbfjaaGreatDoorAiRows
import Derived.Test.YtfnbgfmmlgbfjaaGreatDoorProg
namespace Go.Proofs.YtfnbgfmmlgbfjaaGreatDoor
open Go.ChangeShapes Go.WideShapes Go.ChangeAt Go.RowKit Go.Ai
noncomputable def Tryz.ft : T Func := T.ofList Tryz.prog.funcs.toList
noncomputable def Tryz.tt : T (Option Ty) := T.ofList ((List.range 578).map (tyRow Tryz.prog))
noncomputable def Tryz.pt : T (Option (List CK)) := T.ofList ((List.range 578).map (peqOf Tryz.prog 20))
noncomputable def Tryz.cfg : Cfg := cfgP Tryz.prog 0 Tryz.ft Tryz.tt Tryz.pt
theorem Tryz.cfgOk : CfgOk Tryz.prog Tryz.cfg (okK 0) := cfgP_ok 0 578 (by kernel_rfl)
set_option maxRecDepth 100000 in
theorem alive_run : allTrueN 400 (run Tryz.cfg 2000 (.call 6 []) (St.empty 0)) = true := by kernel_rfl
theorem alive_ok : SpecOk Tryz.prog 0 (ClosedTrue [6]) := closed_ok Tryz.cfgOk 2000 400 (by
  intro f hf
  obtain rfl := List.mem_singleton.1 hf
  exact alive_run)
end Go.Proofs.YtfnbgfmmlgbfjaaGreatDoor
