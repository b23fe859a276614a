/- The tables of the program; cells of elements. -/
import Derived.Test.YtgplkbfjlidinabGreatDoorAiCon
import Derived.Test.YtgplkbfjlidinabGreatDoorAiTab
import Derived.Test.YtgplkbfjlidinabGreatDoorAiHit
import Derived.Test.YtgplkbfjlidinabGreatDoorRows
import Derived.Test.YtgplkbfjlidinabGreatDoorKit
set_option linter.unusedVariables false
set_option linter.unusedSimpArgs false
set_option linter.unnecessarySimpa false
namespace Go.Proofs.YtgplkbfjlidinabGreatDoor
open Go.ChangeShapes Go.WideShapes Go.ChangeAt Go.RowKit Go.Ai
noncomputable def Tryz.ft : T Func := T.ofList Tryz.prog.funcs.toList
noncomputable def Tryz.tt : T (Option Ty) := T.ofList ((List.range 153).map (tyRow Tryz.prog))
noncomputable def Tryz.pt : T (Option (List CK)) := T.ofList ((List.range 153).map (peqOf Tryz.prog 20))
noncomputable def Tryz.cfg : Cfg := cfgP Tryz.prog 135000004004000 Tryz.ft Tryz.tt Tryz.pt
theorem Tryz.cfgOk : CfgOk Tryz.prog Tryz.cfg (okK 135000004004000) := cfgP_ok 135000004004000 153 Z3
theorem tokC : TokC Tryz.cfg := ⟨rfl, rfl⟩
abbrev Code := Int × Int × Int × Int × Int × Int
def Z29 (x : Code) : List Value := [.int .i64 x.1, .int .i64 x.2.1, .int .i64 x.2.2.1, .int .i64 x.2.2.2.1, .int .i64 x.2.2.2.2.1, .int .i64 x.2.2.2.2.2]
theorem ccells_len (x : Code) : (Z29 x).length = 6 := rfl
theorem Z2i (x : Code) : clo.cloL (Z29 x) = true := rfl
theorem ccells_one (x : Code) : (Z29 x).all one = true := rfl
theorem ccells_iff {a b : List (Code)} : inlL Z29 6 a = inlL Z29 6 b ↔ a = b :=
 ⟨inlL_inj ccells_len fun x y h => Z0h, fun h => by rw [h]⟩
theorem ccells_eq {x y : Code} : Z29 x = Z29 y ↔ x = y :=
 ⟨fun h => Z0h, fun h => by rw [h]⟩
end Go.Proofs.YtgplkbfjlidinabGreatDoor