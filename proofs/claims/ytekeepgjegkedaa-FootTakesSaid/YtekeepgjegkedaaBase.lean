/- The tables of the program; cells of elements. -/
import Derived.Test.YtekeepgjegkedaaAiComp
import Derived.Test.YtekeepgjegkedaaRows
import Derived.Test.YtekeepgjegkedaaKit
set_option linter.unusedVariables false
set_option linter.unusedSimpArgs false
set_option linter.unnecessarySimpa false
namespace Go.Proofs.Ytekeepgjegkedaa
open Go.ChangeShapes Go.WideShapes Go.ChangeAt Go.RowKit Go.Ai
noncomputable def Try.ft : T Func := T.ofList Try.prog.funcs.toList
noncomputable def Try.tt : T (Option Ty) := T.ofList ((List.range 162).map (tyRow Try.prog))
noncomputable def Try.pt : T (Option (List CK)) := T.ofList ((List.range 162).map (peqOf Try.prog 20))
noncomputable def Try.cfg : Cfg := cfgP Try.prog 0 Try.ft Try.tt Try.pt
theorem Try.cfgOk : CfgOk Try.prog Try.cfg (okK 0) := cfgP_ok 0 162 Z0
theorem tokC : TokC Try.cfg := ⟨rfl, rfl⟩
abbrev Key := Int × Int
abbrev Span := Int × Int × Int
def Z1o (x : Key) : List Value := [.int .i64 x.1, .int .i64 x.2]
theorem kcells_len (x : Key) : (Z1o x).length = 2 := rfl
theorem kcells_clo (x : Key) : clo.cloL (Z1o x) = true := rfl
theorem kcells_one (x : Key) : (Z1o x).all one = true := rfl
theorem kcells_iff {a b : List (Key)} : inlL Z1o 2 a = inlL Z1o 2 b ↔ a = b :=
 ⟨inlL_inj kcells_len fun x y h => by simp only [Z1o, List.cons.injEq, Value.int.injEq, true_and, and_true] at h; exact Prod.ext h.1 (h.2), fun h => by rw [h]⟩
def Z1s (x : Span) : List Value := [.int .i64 x.1, .int .i64 x.2.1, .int .i64 x.2.2]
theorem scells_len (x : Span) : (Z1s x).length = 3 := rfl
theorem scells_clo (x : Span) : clo.cloL (Z1s x) = true := rfl
theorem scells_one (x : Span) : (Z1s x).all one = true := rfl
theorem scells_iff {a b : List (Span)} : inlL Z1s 3 a = inlL Z1s 3 b ↔ a = b :=
 ⟨inlL_inj scells_len fun x y h => by simp only [Z1s, List.cons.injEq, Value.int.injEq, true_and, and_true] at h; exact Prod.ext h.1 (Prod.ext h.2.1 (h.2.2)), fun h => by rw [h]⟩
theorem scells_row {a b : List (Span)} : rowL Z1s a = rowL Z1s b ↔ a = b := row_iff Z9 scells_len scells_iff
def icells (x : Int) : List Value := [.int .i64 x]
theorem icells_len (x : Int) : (icells x).length = 1 := rfl
theorem icells_clo (x : Int) : clo.cloL (icells x) = true := rfl
theorem icells_iff {a b : List (Int)} : inlL icells 1 a = inlL icells 1 b ↔ a = b :=
 ⟨inlL_inj icells_len fun x y h => by simp only [icells, List.cons.injEq, Value.int.injEq, true_and, and_true] at h; exact h, fun h => by rw [h]⟩
theorem icells_row {a b : List (Int)} : rowL icells a = rowL icells b ↔ a = b := row_iff Z9 icells_len icells_iff
end Go.Proofs.Ytekeepgjegkedaa