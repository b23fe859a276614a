/- The tables of the program; cells of elements. -/
import Derived.Test.YtekeepgjegkedaaAiCon
import Derived.Test.YtekeepgjegkedaaRows
set_option linter.unusedVariables false
set_option linter.unusedSimpArgs false
set_option linter.unnecessarySimpa false
namespace Go.Proofs.Ytekeepgjegkedaa
open Go.ChangeShapes Go.WideShapes Go.ChangeAt Go.RowKit Go.Ai
noncomputable def Try.ft : T Func := T.ofList Try.prog.funcs.toList
noncomputable def Try.tt : T (Option Ty) := T.ofList ((List.range 162).map (tyRow Try.prog))
noncomputable def Try.pt : T (Option (List CK)) := T.ofList ((List.range 162).map (peqOf Try.prog 20))
noncomputable def Try.cfg : Cfg := cfgP Try.prog 0 Try.ft Try.tt Try.pt
theorem Try.cfgOk : CfgOk Try.prog Try.cfg (okK 0) := cfgP_ok 0 162 (by kernel_rfl)
theorem tokC : TokC Try.cfg := ⟨rfl, rfl⟩
/-- keys, spans, bytes -/
abbrev Key := Int × Int
abbrev Span := Int × Int × Int
def kcells (k : Key) : List Value := [.int .i64 k.1, .int .i64 k.2]
def scells (x : Span) : List Value := [.int .i64 x.1, .int .i64 x.2.1, .int .i64 x.2.2]
theorem kcells_len (k : Key) : (kcells k).length = 2 := rfl
theorem kcells_clo (k : Key) : clo.cloL (kcells k) = true := rfl
theorem kcells_one (k : Key) : (kcells k).all one = true := rfl
theorem kcells_iff {a b : List Key} : inlL kcells 2 a = inlL kcells 2 b ↔ a = b :=
  ⟨inlL_inj kcells_len fun x y h => by simp only [kcells, List.cons.injEq, Value.int.injEq, true_and, and_true] at h; exact Prod.ext h.1 h.2, fun h => by rw [h]⟩
theorem scells_len (x : Span) : (scells x).length = 3 := rfl
theorem scells_clo (x : Span) : clo.cloL (scells x) = true := rfl
theorem scells_one (x : Span) : (scells x).all one = true := rfl
theorem scells_iff {a b : List Span} : inlL scells 3 a = inlL scells 3 b ↔ a = b :=
  ⟨inlL_inj scells_len fun x y h => by simp only [scells, List.cons.injEq, Value.int.injEq, true_and, and_true] at h; exact Prod.ext h.1 (Prod.ext h.2.1 h.2.2), fun h => by rw [h]⟩
abbrev Foot := List Key × List Span × List Key
noncomputable def fcells (f : Foot) : List Value := [inlL kcells 2 f.1, inlL scells 3 f.2.1, inlL kcells 2 f.2.2]
theorem fcells_len (f : Foot) : (fcells f).length = 3 := rfl
theorem fcells_clo (f : Foot) : clo.cloL (fcells f) = true := rfl
theorem fcells_iff {a b : List Foot} : inlL fcells 3 a = inlL fcells 3 b ↔ a = b :=
  ⟨inlL_inj fcells_len fun x y h => by simp only [fcells, List.cons.injEq, kcells_iff, scells_iff, and_true] at h; exact Prod.ext h.1 (Prod.ext h.2.1 h.2.2), fun h => by rw [h]⟩
def icells (n : Int) : List Value := [.int .i64 n]
theorem icells_len (n : Int) : (icells n).length = 1 := rfl
theorem icells_clo (n : Int) : clo.cloL (icells n) = true := rfl
theorem icells_iff {a b : List Int} : inlL icells 1 a = inlL icells 1 b ↔ a = b :=
  ⟨inlL_inj icells_len fun x y h => by simpa only [icells, List.cons.injEq, Value.int.injEq, true_and, and_true] using h, fun h => by rw [h]⟩
theorem icells_row {a b : List Int} : rowL icells a = rowL icells b ↔ a = b := by
  refine ⟨fun h => ?_, fun h => by rw [h]⟩
  simp only [rowL, AObj.arr.injEq, and_true] at h
  have hl : a.length = b.length := by have := congrArg List.length h; rw [flatL_len icells_len, flatL_len icells_len] at this; omega
  exact icells_iff.1 (by rw [inlL, inlL, h, hl])
end Go.Proofs.Ytekeepgjegkedaa