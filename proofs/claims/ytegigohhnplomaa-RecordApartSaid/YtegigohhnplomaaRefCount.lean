/- The bytes of a count, after the document. -/
import Derived.Test.YtegigohhnplomaaWriter
set_option linter.unusedVariables false
set_option linter.unusedSimpArgs false
set_option linter.unnecessarySimpa false
namespace Go.Proofs.Ytegigohhnplomaa
open Go.Ai

end Go.Proofs.Ytegigohhnplomaa