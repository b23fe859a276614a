/- The document: words, fields, figures, lines. -/
import Derived.Test.YtgplkbfjlidinaaDoorCode
import Derived.Test.YtgplkbfjlidinaaDoorAiComp
set_option linter.unusedVariables false
set_option linter.unusedSimpArgs false
set_option linter.unnecessarySimpa false
namespace Go.Proofs.YtgplkbfjlidinaaDoor
open Go.Ai
theorem wordsL_len : wordsL.length = 16 := rfl
end Go.Proofs.YtgplkbfjlidinaaDoor