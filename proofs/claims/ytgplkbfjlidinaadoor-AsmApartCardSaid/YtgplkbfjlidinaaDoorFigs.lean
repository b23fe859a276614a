/- The document: figures. -/
import Derived.Test.YtgplkbfjlidinaaDoorRef
set_option linter.unusedVariables false
set_option linter.unusedSimpArgs false
set_option linter.unnecessarySimpa false
namespace Go.Proofs.YtgplkbfjlidinaaDoor
open Go.Ai
end Go.Proofs.YtgplkbfjlidinaaDoor