/- The tables of the program; cells of elements. -/
import Derived.Test.YtgplkbfjlidinabDoorAiCon
import Derived.Test.YtgplkbfjlidinabDoorAiTab
import Derived.Test.YtgplkbfjlidinabDoorAiHit
import Derived.Test.YtgplkbfjlidinabDoorRows
import Derived.Test.YtgplkbfjlidinabDoorKit
set_option linter.unusedVariables false
set_option linter.unusedSimpArgs false
set_option linter.unnecessarySimpa false
namespace Go.Proofs.YtgplkbfjlidinabDoor
open Go.ChangeShapes Go.WideShapes Go.ChangeAt Go.RowKit Go.Ai
noncomputable def Tryd.ft : T Func := T.ofList Tryd.prog.funcs.toList
noncomputable def Tryd.tt : T (Option Ty) := T.ofList ((List.range 152).map (tyRow Tryd.prog))
noncomputable def Tryd.pt : T (Option (List CK)) := T.ofList ((List.range 152).map (peqOf Tryd.prog 20))
noncomputable def Tryd.cfg : Cfg := cfgP Tryd.prog 136000004004000 Tryd.ft Tryd.tt Tryd.pt
theorem Tryd.cfgOk : CfgOk Tryd.prog Tryd.cfg (okK 136000004004000) := cfgP_ok 136000004004000 152 Z3
theorem tokC : TokC Tryd.cfg := ⟨rfl, rfl⟩
abbrev Code := Int × Int × Int × Int × Int × Int
def Z20 (x : Code) : List Value := [.int .i64 x.1, .int .i64 x.2.1, .int .i64 x.2.2.1, .int .i64 x.2.2.2.1, .int .i64 x.2.2.2.2.1, .int .i64 x.2.2.2.2.2]
theorem ccells_len (x : Code) : (Z20 x).length = 6 := rfl
theorem ccells_clo (x : Code) : clo.cloL (Z20 x) = true := rfl
theorem ccells_one (x : Code) : (Z20 x).all one = true := rfl
theorem ccells_iff {a b : List (Code)} : inlL Z20 6 a = inlL Z20 6 b ↔ a = b :=
 ⟨inlL_inj ccells_len fun x y h => Z0d, fun h => by rw [h]⟩
theorem ccells_eq {x y : Code} : Z20 x = Z20 y ↔ x = y :=
 ⟨fun h => Z0d, fun h => by rw [h]⟩
end Go.Proofs.YtgplkbfjlidinabDoor