/- What a nil hall answers. -/
import Derived.Test.YtdgadbbjnhnkeaaGreatDoorBase
import Derived.Test.YtdgadbbjnhnkeaaGreatDoorAiHit
import Derived.Test.YtdgadbbjnhnkeaaGreatDoorAiComp
set_option linter.unusedVariables false
set_option linter.unusedSimpArgs false
set_option linter.unnecessarySimpa false
namespace Go.Proofs.YtdgadbbjnhnkeaaGreatDoor
open Go.Ai
/-- instructions -/
abbrev Code := Int × Int × Int × Int × Int × Int
def ccells (x : Code) : List Value := [.int .i64 x.1, .int .i64 x.2.1, .int .i64 x.2.2.1, .int .i64 x.2.2.2.1, .int .i64 x.2.2.2.2.1, .int .i64 x.2.2.2.2.2]
theorem ccells_len (x : Code) : (ccells x).length = 6 := rfl
theorem ccells_iff {a b : List (Code)} : inlL ccells 6 a = inlL ccells 6 b ↔ a = b :=
  ⟨inlL_inj ccells_len fun x y h => by simp only [ccells, List.cons.injEq, Value.int.injEq, true_and, and_true] at h; exact Prod.ext h.1 (Prod.ext h.2.1 (Prod.ext h.2.2.1 (Prod.ext h.2.2.2.1 (Prod.ext h.2.2.2.2.1 (h.2.2.2.2.2))))), fun h => by rw [h]⟩
end Go.Proofs.YtdgadbbjnhnkeaaGreatDoor