/- Good feet. -/
import Derived.Test.YtfpkfcdeoiofiaaRise
set_option linter.unusedVariables false
set_option linter.unusedSimpArgs false
set_option linter.unnecessarySimpa false
namespace Go.Proofs.Ytfpkfcdeoiofiaa
open Go.Ai
end Go.Proofs.Ytfpkfcdeoiofiaa