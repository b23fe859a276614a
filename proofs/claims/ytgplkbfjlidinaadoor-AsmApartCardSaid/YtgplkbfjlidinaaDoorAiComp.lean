/- The interpreter: what holds of it. -/
import Derived.Test.YtgplkbfjlidinaaDoorAiCon
set_option linter.unusedVariables false
set_option linter.unusedSimpArgs false
set_option linter.unnecessarySimpa false
/-
  Parts of rows that are written, cleared and handed back.
-/
namespace Go.Ai
section
variable {α : Type} {f : α → List Value} {l : List α} {sz : Nat} {C : Cfg} {s : St}
theorem idx_rowI {t : TypeId} (ht : slTy C t sz = true) {id n i : Nat} {j : Int} {k : IntKind} (hj : j = (i : Int)) (hi : i < n) : indexAddrV C t (slL id sz n) (.int k j) = some (.pointer (some ⟨id, i * sz, some (n * sz)⟩)) := hj ▸ idx_rowL ht hi
end
end Go.Ai