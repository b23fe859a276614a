/- What inputs are told as. -/
import Derived.Test.YtekeepgjegkedaaBase
import Derived.Test.YtekeepgjegkedaaAiCon
import Derived.Test.YtekeepgjegkedaaKit
set_option linter.unusedVariables false
set_option linter.unusedSimpArgs false
set_option linter.unnecessarySimpa false
namespace Go.Proofs.Ytekeepgjegkedaa
open Go.ChangeShapes Go.WideShapes Go.ChangeAt Go.RowKit Go.Ai
theorem Try.own : ownKnob Try.prog.godebug = none := Z0
theorem Try.laidOut : laidOutB Try.prog = true := Z0
end Go.Proofs.Ytekeepgjegkedaa