/- The tables of the program, and what the chapter's example comes to. -/
import Derived.Test.YtfcfphkcoongdaaAiNone
import Derived.Test.YtfcfphkcoongdaaRows
namespace Go.Proofs.Ytfcfphkcoongdaa
open Go.ChangeShapes Go.WideShapes Go.ChangeAt Go.RowKit Go.Ai
noncomputable def Try.ft : T Func := T.ofList Try.prog.funcs.toList
noncomputable def Try.tt : T (Option Ty) := T.ofList ((List.range 143).map (tyRow Try.prog))
noncomputable def Try.pt : T (Option (List CK)) := T.ofList ((List.range 143).map (peqOf Try.prog 20))
noncomputable def Try.cfg : Cfg := cfgP Try.prog 0 Try.ft Try.tt Try.pt
theorem Try.cfgOk : CfgOk Try.prog Try.cfg (okK 0) := cfgP_ok 0 143 (by kernel_rfl)
set_option maxRecDepth 100000 in
theorem alive_run : allTrueN 400 (run Try.cfg 2000 (.call 4 []) (St.empty 0)) = true := by kernel_rfl
theorem alive_ok : SpecOk Try.prog 0 (ClosedTrue [4]) := closed_ok Try.cfgOk 2000 400 (by
  intro f hf
  obtain rfl := List.mem_singleton.1 hf
  exact alive_run)
end Go.Proofs.Ytfcfphkcoongdaa
