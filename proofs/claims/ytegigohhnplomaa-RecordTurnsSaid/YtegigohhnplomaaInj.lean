/- Unlike good records have unlike bytes. -/
import Derived.Test.YtegigohhnplomaaEncode
import Derived.Test.YtegigohhnplomaaAiCon
import Derived.Test.YtegigohhnplomaaKit
set_option linter.unusedVariables false
set_option linter.unusedSimpArgs false
set_option linter.unnecessarySimpa false
namespace Go.Proofs.Ytegigohhnplomaa
open Go.Ai
def inK (l : List Key) : Prop := l.length ≤ 6000 ∧ ∀ k ∈ l, in64 k.1 ∧ in64 k.2
def inS (l : List Span) : Prop := l.length ≤ 6000 ∧ ∀ k ∈ l, in64 k.1 ∧ in64 k.2.1 ∧ in64 k.2.2
theorem inK.ok {l : List Key} (h : inK l) : okK l := ⟨h.1, fun k hk => (h.2 k hk).2⟩
theorem inS.ok {l : List Span} (h : inS l) : okS l := ⟨h.1, fun k hk => (h.2 k hk).2⟩
end Go.Proofs.Ytegigohhnplomaa