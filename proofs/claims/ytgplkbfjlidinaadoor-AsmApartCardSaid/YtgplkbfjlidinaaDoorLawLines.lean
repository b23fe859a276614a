/- AsmLines: the walk of the law. -/
import Derived.Test.YtgplkbfjlidinaaDoorPrint
set_option linter.unusedVariables false
set_option linter.unusedSimpArgs false
set_option linter.unnecessarySimpa false
namespace Go.Proofs.YtgplkbfjlidinaaDoor
open Go.Ai
noncomputable def con_alive : Con Tryd.prog 1001 := Con.pure (α := Unit) 5 (fun z9 => []) (fun z9 => .bool true) (fun z9 => True) (by
  intro x y _; rfl) (fun _ => rfl) (fun _ => rfl) 400 (by
  intro x hp; exact alive_sc)
theorem con_alive_at   (s : St) : con_alive.rel [] s (.bool true) s := con_pure () trivial s
end Go.Proofs.YtgplkbfjlidinaaDoor