/- The tables of the program; cells of elements. -/
import Derived.Test.YtekeepgjegkedaaAiComp
import Derived.Test.YtekeepgjegkedaaRows
set_option linter.unusedVariables false
set_option linter.unusedSimpArgs false
set_option linter.unnecessarySimpa false
namespace Go.Proofs.Ytekeepgjegkedaa
open Go.ChangeShapes Go.WideShapes Go.ChangeAt Go.RowKit Go.Ai
noncomputable def Try.ft : T Func := T.ofList Try.prog.funcs.toList
noncomputable def Try.tt : T (Option Ty) := T.ofList ((List.range 162).map (tyRow Try.prog))
noncomputable def Try.pt : T (Option (List CK)) := T.ofList ((List.range 162).map (peqOf Try.prog 20))
noncomputable def Try.cfg : Cfg := cfgP Try.prog 0 Try.ft Try.tt Try.pt
theorem Try.cfgOk : CfgOk Try.prog Try.cfg (okK 0) := cfgP_ok 0 162 (by kernel_rfl)
theorem tokC : TokC Try.cfg := ⟨rfl, rfl⟩
/-- keys, spans, feet -/
abbrev Key := Int × Int
abbrev Span := Int × Int × Int
abbrev Foot := List Key × List Span × List Key
def kcells (x : Key) : List Value := [.int .i64 x.1, .int .i64 x.2]
theorem kcells_len (x : Key) : (kcells x).length = 2 := rfl
theorem kcells_clo (x : Key) : clo.cloL (kcells x) = true := rfl
theorem kcells_one (x : Key) : (kcells x).all one = true := rfl
theorem kcells_iff {a b : List (Key)} : inlL kcells 2 a = inlL kcells 2 b ↔ a = b :=
  ⟨inlL_inj kcells_len fun x y h => by simp only [kcells, List.cons.injEq, Value.int.injEq, true_and, and_true] at h; exact Prod.ext h.1 (h.2), fun h => by rw [h]⟩
theorem kcells_row {a b : List (Key)} : rowL kcells a = rowL kcells b ↔ a = b := row_iff (by decide) kcells_len kcells_iff
def scells (x : Span) : List Value := [.int .i64 x.1, .int .i64 x.2.1, .int .i64 x.2.2]
theorem scells_len (x : Span) : (scells x).length = 3 := rfl
theorem scells_clo (x : Span) : clo.cloL (scells x) = true := rfl
theorem scells_one (x : Span) : (scells x).all one = true := rfl
theorem scells_iff {a b : List (Span)} : inlL scells 3 a = inlL scells 3 b ↔ a = b :=
  ⟨inlL_inj scells_len fun x y h => by simp only [scells, List.cons.injEq, Value.int.injEq, true_and, and_true] at h; exact Prod.ext h.1 (Prod.ext h.2.1 (h.2.2)), fun h => by rw [h]⟩
theorem scells_row {a b : List (Span)} : rowL scells a = rowL scells b ↔ a = b := row_iff (by decide) scells_len scells_iff
noncomputable def fcells (x : Foot) : List Value := [inlL kcells 2 x.1, inlL scells 3 x.2.1, inlL kcells 2 x.2.2]
theorem fcells_len (x : Foot) : (fcells x).length = 3 := rfl
theorem fcells_clo (x : Foot) : clo.cloL (fcells x) = true := rfl
theorem fcells_one (x : Foot) : (fcells x).all one = true := rfl
theorem fcells_iff {a b : List (Foot)} : inlL fcells 3 a = inlL fcells 3 b ↔ a = b :=
  ⟨inlL_inj fcells_len fun x y h => by simp only [fcells, List.cons.injEq, kcells_iff, scells_iff, true_and, and_true] at h; exact Prod.ext h.1 (Prod.ext h.2.1 (h.2.2)), fun h => by rw [h]⟩
theorem fcells_row {a b : List (Foot)} : rowL fcells a = rowL fcells b ↔ a = b := row_iff (by decide) fcells_len fcells_iff
def icells (x : Int) : List Value := [.int .i64 x]
theorem icells_len (x : Int) : (icells x).length = 1 := rfl
theorem icells_clo (x : Int) : clo.cloL (icells x) = true := rfl
theorem icells_iff {a b : List (Int)} : inlL icells 1 a = inlL icells 1 b ↔ a = b :=
  ⟨inlL_inj icells_len fun x y h => by simp only [icells, List.cons.injEq, Value.int.injEq, true_and, and_true] at h; exact h, fun h => by rw [h]⟩
theorem icells_row {a b : List (Int)} : rowL icells a = rowL icells b ↔ a = b := row_iff (by decide) icells_len icells_iff
theorem kcells_rowm {m n : Nat} {a b : List Key} : rowM kcells m a = rowM kcells n b ↔ m = n ∧ a = b := rowm_iff kcells_len fun _ _ => kcells_row
end Go.Proofs.Ytekeepgjegkedaa