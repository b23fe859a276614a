/- The tables of the program; cells of elements. -/
import Derived.Test.YtegigohhnplomaaAiCon
import Derived.Test.YtegigohhnplomaaRows
import Derived.Test.YtegigohhnplomaaKit
set_option linter.unusedVariables false
set_option linter.unusedSimpArgs false
set_option linter.unnecessarySimpa false
namespace Go.Proofs.Ytegigohhnplomaa
open Go.ChangeShapes Go.WideShapes Go.ChangeAt Go.RowKit Go.Ai
noncomputable def Try.ft : T Func := T.ofList Try.prog.funcs.toList
noncomputable def Try.tt : T (Option Ty) := T.ofList ((List.range 155).map (tyRow Try.prog))
noncomputable def Try.pt : T (Option (List CK)) := T.ofList ((List.range 155).map (peqOf Try.prog 20))
noncomputable def Try.cfg : Cfg := cfgP Try.prog 0 Try.ft Try.tt Try.pt
theorem Try.cfgOk : CfgOk Try.prog Try.cfg (okK 0) := cfgP_ok 0 155 Z1
theorem tokC : TokC Try.cfg := ⟨rfl, rfl⟩
abbrev Key := Int × Int
abbrev Span := Int × Int × Int
abbrev Wr := Int × Int × Int × Bool
abbrev Code := Int × Int × Int × Int × Int × Int
def Z1v (x : Key) : List Value := [.int .i64 x.1, .int .i64 x.2]
theorem kcells_len (x : Key) : (Z1v x).length = 2 := rfl
theorem kcells_clo (x : Key) : clo.cloL (Z1v x) = true := rfl
theorem kcells_one (x : Key) : (Z1v x).all one = true := rfl
theorem kcells_iff {a b : List (Key)} : inlL Z1v 2 a = inlL Z1v 2 b ↔ a = b :=
 ⟨inlL_inj kcells_len fun x y h => by simp only [Z1v, List.cons.injEq, Value.int.injEq, true_and, and_true] at h; exact Prod.ext h.1 (h.2), fun h => by rw [h]⟩
def Z1y (x : Span) : List Value := [.int .i64 x.1, .int .i64 x.2.1, .int .i64 x.2.2]
theorem scells_len (x : Span) : (Z1y x).length = 3 := rfl
theorem scells_clo (x : Span) : clo.cloL (Z1y x) = true := rfl
theorem scells_one (x : Span) : (Z1y x).all one = true := rfl
theorem scells_iff {a b : List (Span)} : inlL Z1y 3 a = inlL Z1y 3 b ↔ a = b :=
 ⟨inlL_inj scells_len fun x y h => by simp only [Z1y, List.cons.injEq, Value.int.injEq, true_and, and_true] at h; exact Prod.ext h.1 (Prod.ext h.2.1 (h.2.2)), fun h => by rw [h]⟩
def Z21 (x : Wr) : List Value := [.int .i64 x.1, .int .i64 x.2.1, .int .i64 x.2.2.1, .bool x.2.2.2]
theorem wcells_len (x : Wr) : (Z21 x).length = 4 := rfl
theorem wcells_clo (x : Wr) : clo.cloL (Z21 x) = true := rfl
theorem wcells_one (x : Wr) : (Z21 x).all one = true := rfl
theorem wcells_iff {a b : List (Wr)} : inlL Z21 4 a = inlL Z21 4 b ↔ a = b :=
 ⟨inlL_inj wcells_len fun x y h => by simp only [Z21, List.cons.injEq, Value.int.injEq, Value.bool.injEq, true_and, and_true] at h; exact Prod.ext h.1 (Prod.ext h.2.1 (Prod.ext h.2.2.1 (h.2.2.2))), fun h => by rw [h]⟩
def Z1w (x : Code) : List Value := [.int .i64 x.1, .int .i64 x.2.1, .int .i64 x.2.2.1, .int .i64 x.2.2.2.1, .int .i64 x.2.2.2.2.1, .int .i64 x.2.2.2.2.2]
theorem ccells_len (x : Code) : (Z1w x).length = 6 := rfl
theorem ccells_clo (x : Code) : clo.cloL (Z1w x) = true := rfl
theorem ccells_one (x : Code) : (Z1w x).all one = true := rfl
theorem ccells_iff {a b : List (Code)} : inlL Z1w 6 a = inlL Z1w 6 b ↔ a = b :=
 ⟨inlL_inj ccells_len fun x y h => Z0b, fun h => by rw [h]⟩
theorem ccells_eq {x y : Code} : Z1w x = Z1w y ↔ x = y :=
 ⟨fun h => Z0b, fun h => by rw [h]⟩
def icells (x : Int) : List Value := [.int .i64 x]
theorem icells_len (x : Int) : (icells x).length = 1 := rfl
theorem icells_clo (x : Int) : clo.cloL (icells x) = true := rfl
theorem icells_iff {a b : List (Int)} : inlL icells 1 a = inlL icells 1 b ↔ a = b :=
 ⟨inlL_inj icells_len fun x y h => by simp only [icells, List.cons.injEq, Value.int.injEq, true_and, and_true] at h; exact h, fun h => by rw [h]⟩
theorem icells_row {a b : List (Int)} : rowL icells a = rowL icells b ↔ a = b := row_iff Ze icells_len icells_iff
end Go.Proofs.Ytegigohhnplomaa