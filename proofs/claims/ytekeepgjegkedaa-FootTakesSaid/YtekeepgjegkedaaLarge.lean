/- The law. -/
import Derived.Test.YtekeepgjegkedaaGood
import Derived.Test.YtekeepgjegkedaaMeet
import Derived.Test.YtekeepgjegkedaaKit
set_option linter.unusedVariables false
set_option linter.unusedSimpArgs false
set_option linter.unnecessarySimpa false
namespace Go.Proofs.Ytekeepgjegkedaa
open Go.Ai
theorem alive_run : allTrueN 4000 (run Try.cfg 4000 (.call 8 []) (St.empty 0)) = true := Z0
theorem alive_sc : SC Try.prog 0 8 [] (St.empty 0) fun v s' => v = .bool true ∧ s'.n ≤ 4000 := sc_closed Try.cfgOk 4000 4000 alive_run
noncomputable def con_alive : Con Try.prog 0 := Con.pure (α := Unit) 8 (fun z9 => []) (fun z9 => .bool true) (fun z9 => True) (by
 intro x y _; rfl) (fun _ => rfl) (fun _ => rfl) 4000 (by
 intro x hp; exact alive_sc)
theorem con_alive_at   (s : St) : con_alive.rel [] s (.bool true) s := con_pure () trivial s
end Go.Proofs.Ytekeepgjegkedaa