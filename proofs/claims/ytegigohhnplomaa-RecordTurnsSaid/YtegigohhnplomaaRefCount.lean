/- The bytes of a count, after the document. -/
import Derived.Test.YtegigohhnplomaaWriter
import Derived.Test.YtegigohhnplomaaKit
set_option linter.unusedVariables false
set_option linter.unusedSimpArgs false
set_option linter.unnecessarySimpa false
namespace Go.Proofs.Ytegigohhnplomaa
open Go.Ai
end Go.Proofs.Ytegigohhnplomaa