/- The tables of the program; cells of elements. -/
import Derived.Test.YtgplkbfjlidinaaDoorAiCon
import Derived.Test.YtgplkbfjlidinaaDoorAiTab
import Derived.Test.YtgplkbfjlidinaaDoorAiHit
import Derived.Test.YtgplkbfjlidinaaDoorRows
set_option linter.unusedVariables false
set_option linter.unusedSimpArgs false
set_option linter.unnecessarySimpa false
namespace Go.Proofs.YtgplkbfjlidinaaDoor
open Go.ChangeShapes Go.WideShapes Go.ChangeAt Go.RowKit Go.Ai
noncomputable def Tryd.ft : T Func := T.ofList Tryd.prog.funcs.toList
noncomputable def Tryd.tt : T (Option Ty) := T.ofList ((List.range 117).map (tyRow Tryd.prog))
noncomputable def Tryd.pt : T (Option (List CK)) := T.ofList ((List.range 117).map (peqOf Tryd.prog 20))
noncomputable def Tryd.cfg : Cfg := cfgP Tryd.prog 1001 Tryd.ft Tryd.tt Tryd.pt
theorem Tryd.cfgOk : CfgOk Tryd.prog Tryd.cfg (okK 1001) := cfgP_ok 1001 117 (by kernel_rfl)
theorem tokC : TokC Tryd.cfg := ⟨rfl, rfl⟩
/-- instructions -/
abbrev Code := Int × Int × Int × Int × Int × Int
def ccells (x : Code) : List Value := [.int .i64 x.1, .int .i64 x.2.1, .int .i64 x.2.2.1, .int .i64 x.2.2.2.1, .int .i64 x.2.2.2.2.1, .int .i64 x.2.2.2.2.2]
theorem ccells_len (x : Code) : (ccells x).length = 6 := rfl
theorem ccells_clo (x : Code) : clo.cloL (ccells x) = true := rfl
theorem ccells_iff {a b : List (Code)} : inlL ccells 6 a = inlL ccells 6 b ↔ a = b :=
  ⟨inlL_inj ccells_len fun x y h => by simp only [ccells, List.cons.injEq, Value.int.injEq, true_and, and_true] at h; exact Prod.ext h.1 (Prod.ext h.2.1 (Prod.ext h.2.2.1 (Prod.ext h.2.2.2.1 (Prod.ext h.2.2.2.2.1 (h.2.2.2.2.2))))), fun h => by rw [h]⟩
theorem ccells_eq {x y : Code} : ccells x = ccells y ↔ x = y :=
  ⟨fun h => by simp only [ccells, List.cons.injEq, Value.int.injEq, true_and, and_true] at h; exact Prod.ext h.1 (Prod.ext h.2.1 (Prod.ext h.2.2.1 (Prod.ext h.2.2.2.1 (Prod.ext h.2.2.2.2.1 (h.2.2.2.2.2))))), fun h => by rw [h]⟩
end Go.Proofs.YtgplkbfjlidinaaDoor