/- Feet that meet. -/
import Derived.Test.YtekeepgjegkedaaFeet
import Derived.Test.YtekeepgjegkedaaKit
set_option linter.unusedVariables false
set_option linter.unusedSimpArgs false
set_option linter.unnecessarySimpa false
namespace Go.Proofs.Ytekeepgjegkedaa
open Go.Ai
end Go.Proofs.Ytekeepgjegkedaa